/- Subdirect subpowers: spec.IsSubdirect, impl.IsSubdirect: the same answer. Proved for this program; conditions: lengths below 2^42. -/
import Derived.Test.YtodlpdedldhebaaSubT
import Derived.Test.YtodlpdedldhebaaPutI
import Derived.Test.YtodlpdedldhebaaMarks
namespace Go.Proofs.Ytodlpdedldhebaa
open Go Go.Proofs
set_option linter.unusedVariables false
theorem trueAt_set {N : Nat} {ls : List Int} (h : ∀ x ∈ ls, 0 ≤ x ∧ x < N) : trueAt (mkB N ls) = setI ls := by
  obtain ⟨h1, h2⟩ := setI_str ls
  refine strI_ext ?_ h1 fun t => ?_
  · show StrI (trueTo (mkB N ls) (mkB N ls).length)
    rw [StrI, trueTo, List.pairwise_map]
    exact ((List.pairwise_lt_range (n := _)).filter _).imp fun {a b} h => Int.ofNat_lt.2 h
  · rw [h2]
    show t ∈ trueTo (mkB N ls) (mkB N ls).length ↔ _
    simp only [trueTo, List.mem_map, List.mem_filter, List.mem_range, mkB_length]
    constructor
    · rintro ⟨i, ⟨hi, hb⟩, rfl⟩
      rw [List.getD_eq_getElem?_getD, List.getElem?_eq_getElem (by rw [mkB_length]; exact hi), Option.getD_some, mkB_at] at hb
      simpa using hb
    · intro ht
      obtain ⟨h3, h4⟩ := h t ht
      refine ⟨t.toNat, ⟨by omega, ?_⟩, by omega⟩
      rw [List.getD_eq_getElem?_getD, List.getElem?_eq_getElem (by rw [mkB_length]; omega), Option.getD_some, mkB_at, Int.toNat_of_nonneg h3]
      simpa using ht
def colV (X : List (List Int)) (p : Nat) : List Int := X.map fun t => t.getD p 0
theorem colV_in {n : Int} {k : Nat} {X : List (List Int)} (h : ∀ t ∈ X, TupOk n k t) {p : Nat} (hp : p < k) : ∀ x ∈ colV X p, 0 ≤ x ∧ x < n := fun x hx => by
  obtain ⟨t, ht, rfl⟩ := List.mem_map.1 hx
  obtain ⟨h1, h2⟩ := h t ht
  rw [getD_g _ _ _ (by omega)]
  exact elB_at h2 (by omega)
def sdAt (n : Int) (X : List (List Int)) (p : Nat) : Bool := decide (((setI (colV X p)).length : Int) = n)
def sdB (n : Int) (k : Nat) (X : List (List Int)) : Bool := (List.range k).all (sdAt n X)
theorem sdB_no {n : Int} {k : Nat} {X : List (List Int)} {p : Nat} (hp : p < k) (h : ¬ ((setI (colV X p)).length : Int) = n) : sdB n k X = false := by
  cases e : sdB n k X with
  | false => rfl
  | true =>
    rw [sdB, List.all_eq_true] at e
    have := e p (List.mem_range.2 hp)
    rw [sdAt, decide_eq_true_eq] at this
    exact (h this).elim
theorem sdB_succ {n : Int} {X : List (List Int)} {p : Nat} (h : sdB n p X = true) (h2 : ((setI (colV X p)).length : Int) = n) : sdB n (p + 1) X = true := by
  rw [sdB, List.range_succ, List.all_append, ← sdB, h]
  simp [sdAt, h2]
theorem setI_few {n : Int} {ls : List Int} (h : ∀ x ∈ ls, 0 ≤ x ∧ x < n) (h0 : 0 ≤ n) : ((setI ls).length : Int) ≤ n := by
  obtain ⟨N, rfl⟩ : ∃ N : Nat, n = N := ⟨n.toNat, by omega⟩
  rw [← trueAt_set h]
  have := trueTo_le (mkB N ls) (mkB N ls).length
  rw [mkB_length] at this
  show ((trueTo (mkB N ls) (mkB N ls).length).length : Int) ≤ N
  rw [mkB_length]; omega
theorem mkB_nil2 (N : Nat) : List.replicate N false = mkB N [] := by
  apply List.ext_getElem
  · simp [mkB]
  · intro i h1 h2
    simp [mkB]
set_option maxRecDepth 10000 in
set_option maxHeartbeats 2000000 in
theorem specSd_c (n : Int) (os : List (Int × List Int)) (k : Int) (X : List (List Int)) (hol : os.length ≤ 4611686018427387904) (ho : OpsLen os) (hl : X.length ≤ 4398046511104) (hr : ∀ t ∈ X, t.length ≤ 4611686018427387904) :
    Spec Try.prog 48 [vagg [vint n, vsl 2 (fun y : Int × (List Int) => [vint y.1, vsl 1 (fun x : Int => [vint x]) y.2]) os], vint k, vsl 1 (fun t : List Int => [vsl 1 (fun x : Int => [vint x]) t]) X] [] (fun r S' => r = vtup [vbool (subV n os k X && sdB n k.toNat X), vbool (subV n os k X)] ∧ S' = []) := by
  by_cases hx : subV n os k X = true
  · obtain ⟨ha, hk, hxm, htup, hsX, _⟩ := subV_at hx
    obtain ⟨k2, rfl⟩ : ∃ k2 : Nat, k = k2 := ⟨k.toNat, by omega⟩
    rw [Int.toNat_natCast] at htup
    have hmost := mostV_le os
    rw [hx, Bool.true_and, Int.toNat_natCast]
    refine Spec.of_run2 (n := 42) Try.func48 rfl Try.results48 Try.ntmps48 rfl ?_
    repeat' (first | (with_reducible first | refine RL.done ?_ | refine RL.app0 ?_ | refine RL.app1 ?_ | refine RL.app2 ?_ | refine RL.app3 ?_ | refine RL.app4 ?_) | (with_reducible refine RL.wanted ?_ ?_; exact rfl) | ((with_reducible show RH _ _ _ ⟨some 3, .box _ _, _, _, _, _⟩ _ _ _ _); first | (refine RH.boxAgg rfl rfl ?_; rintro _ _ ⟨b3, rfl, rfl⟩) | (refine RH.boxOne rfl rfl ?_; rintro _ _ ⟨b3, rfl, rfl⟩)) | ((with_reducible show RH _ _ _ ⟨some 21, .buildSlice _ _ _, _, _, _, _⟩ _ _ _ _); refine RH.eff rfl rfl (EOpS.e (EOpS.slit (fun x : Int => [vint x]) _ (fun _ _ => rfl) (by repeat (first | exact Elts.nil | (apply Elts.cons; exact rfl; exact CellsOf.one))) rfl rfl)) ?_; rintro _ _ ⟨b21, rfl, rfl⟩) | ((with_reducible show RH _ _ _ ⟨_, .call ⟨.value (.func 90), _, _⟩, _, _, _, _⟩ _ _ _ _); refine RH.cP Try.call90 ?_; refine ⟨_, l8Takes_c n os _ X (by omega) ho hl hr, ?_⟩; rintro _ _ ⟨rfl, rfl⟩) | ((with_reducible show RH _ _ _ _ _ _ _ _); first | refine RH.val (hK := ?_) | refine RH.upd (hK := ?_) | (refine RH.lr (h := ?_); intro u)) | (with_reducible first | refine Run.seq ?_ | refine Run.region ?_ | refine Run.block ?_ | refine Run.skip ?_ | refine Run.exit ?_ | refine Run.ret ?_) | (with_reducible show Run _ _ (.cond _ _ _) _ _ _; first | refine Run.condT rfl ?_ | refine Run.condF rfl ?_ | refine Run.condD rfl (fun h => ?_) (fun h => ?_) | refine Run.condND rfl (fun h => ?_) (fun h => ?_) | refine Run.condNB rfl (fun h => ?_) (fun h => ?_) | refine Run.cond rfl (fun h => ?_) (fun h => ?_)) | (with_reducible first | refine seqN (K := Run _ _ _ _) ?_ | refine seqE ?_ | refine seqR ?_ | refine blockN ?_ | refine blockR ?_ | refine blockE ?_) | (with_reducible refine blockX ?_ ?_; exact rfl))
    all_goals first
      | (exfalso; simp_all; done)
      | skip
    refine Run.loop (α := Nat) (fun p => [(1, vint (k2 : Int)), (2, vsl 1 (fun t : List Int => [vsl 1 (fun x : Int => [vint x]) t]) X), (3, vptr b3 0), (8, vint (p : Int))]) (fun _ => [hcells b3 [vint n, vsl 2 (fun y : Int × (List Int) => [vint y.1, vsl 1 (fun x : Int => [vint x]) y.2]) os]]) (fun p => p ≤ k2 ∧ sdB n p X = true) (fun p => k2 - p) 0 ⟨Nat.zero_le _, by simp [sdB]⟩ (Ent.of slA chA) ?_
    rintro p ⟨hp, hok⟩
    (try dsimp only at hp hok ⊢)
    rcases Nat.lt_or_eq_of_le hp with h9 | h9
    · have hcl : (colV X p).length = X.length := by simp [colV]
      repeat' (first | (with_reducible first | refine RL.done ?_ | refine RL.app0 ?_ | refine RL.app1 ?_ | refine RL.app2 ?_ | refine RL.app3 ?_ | refine RL.app4 ?_) | (with_reducible refine RL.wanted ?_ ?_; exact rfl) | ((with_reducible show RH _ _ _ ⟨some 3, .box _ _, _, _, _, _⟩ _ _ _ _); first | (refine RH.boxAgg rfl rfl ?_; rintro _ _ ⟨b3, rfl, rfl⟩) | (refine RH.boxOne rfl rfl ?_; rintro _ _ ⟨b3, rfl, rfl⟩)) | ((with_reducible show RH _ _ _ ⟨some 21, .buildSlice _ _ _, _, _, _, _⟩ _ _ _ _); refine RH.eff rfl rfl (EOpS.e (EOpS.slit (fun x : Int => [vint x]) _ (fun _ _ => rfl) (by repeat (first | exact Elts.nil | (apply Elts.cons; exact rfl; exact CellsOf.one))) rfl rfl)) ?_; rintro _ _ ⟨b21, rfl, rfl⟩) | ((with_reducible show RH _ _ _ _ _ _ _ _); first | refine RH.val (hK := ?_) | refine RH.upd (hK := ?_) | (refine RH.lr (h := ?_); intro u)) | (with_reducible first | refine Run.seq ?_ | refine Run.region ?_ | refine Run.block ?_ | refine Run.skip ?_ | refine Run.exit ?_ | refine Run.ret ?_) | (with_reducible show Run _ _ (.cond _ _ _) _ _ _; first | refine Run.condT rfl ?_ | refine Run.condF rfl ?_ | refine Run.condD rfl (fun h => ?_) (fun h => ?_) | refine Run.condND rfl (fun h => ?_) (fun h => ?_) | refine Run.condNB rfl (fun h => ?_) (fun h => ?_) | refine Run.cond rfl (fun h => ?_) (fun h => ?_)) | (with_reducible first | refine seqN (K := Run _ _ _ _) ?_ | refine seqE ?_ | refine seqR ?_ | refine blockN ?_ | refine blockR ?_ | refine blockE ?_) | (with_reducible refine blockX ?_ ?_; exact rfl))
      all_goals first
        | (exfalso; omega)
        | skip
      refine Run.sent (T := [hsl tInt (vsv (some ⟨b21, 0, none⟩, 0, 0)) [], hcells b3 [vint n, vsl 2 (fun y : Int × (List Int) => [vint y.1, vsl 1 (fun x : Int => [vint x]) y.2]) os]]) (SEnt.packNil tInt rfl) ?_
      refine Run.loop (α := Nat × Sv) (fun z => [(1, vint (k2 : Int)), (2, vsl 1 (fun t : List Int => [vsl 1 (fun x : Int => [vint x]) t]) X), (3, vptr b3 0), (8, vint (p : Int)), (9, vlit (vsv z.2)), (10, vint (z.1 : Int))]) (fun z => [hsl tInt (vsv z.2) (setI ((colV X p).take z.1)), hcells b3 [vint n, vsl 2 (fun y : Int × (List Int) => [vint y.1, vsl 1 (fun x : Int => [vint x]) y.2]) os]]) (fun z => z.1 ≤ X.length) (fun z => X.length - z.1) (0, (some ⟨b21, 0, none⟩, 0, 0)) (Nat.zero_le _) (Ent.of slA .refl) ?_
      rintro ⟨m, s⟩ hm
      dsimp only at hm ⊢
      have hle := setI_le ((colV X p).take m) []
      have hle2 : ((colV X p).take m).length ≤ X.length := by rw [List.length_take]; omega
      have hle3 : (setI ((colV X p).take m)).length ≤ X.length := by rw [setI]; simp only [List.length_nil] at hle; omega
      rcases Nat.lt_or_eq_of_le hm with h8 | h8
      · have hxl := (htup _ (List.getElem_mem h8)).1
        have hd : setI ((colV X p).take (m + 1)) = putI (setI ((colV X p).take m)) ((X[m])[p]'(by omega)) := by
          rw [setI_snoc (by omega)]
          simp only [colV, List.getElem_map]
          rw [getD_g _ _ _ (by omega)]
        repeat' (first | (with_reducible first | refine RL.done ?_ | refine RL.app0 ?_ | refine RL.app1 ?_ | refine RL.app2 ?_ | refine RL.app3 ?_ | refine RL.app4 ?_) | (with_reducible refine RL.wanted ?_ ?_; exact rfl) | ((with_reducible show RH _ _ _ ⟨some 3, .box _ _, _, _, _, _⟩ _ _ _ _); first | (refine RH.boxAgg rfl rfl ?_; rintro _ _ ⟨b3, rfl, rfl⟩) | (refine RH.boxOne rfl rfl ?_; rintro _ _ ⟨b3, rfl, rfl⟩)) | ((with_reducible show RH _ _ _ ⟨some 21, .buildSlice _ _ _, _, _, _, _⟩ _ _ _ _); refine RH.eff rfl rfl (EOpS.e (EOpS.slit (fun x : Int => [vint x]) _ (fun _ _ => rfl) (by repeat (first | exact Elts.nil | (apply Elts.cons; exact rfl; exact CellsOf.one))) rfl rfl)) ?_; rintro _ _ ⟨b21, rfl, rfl⟩) | ((with_reducible show RH _ _ _ ⟨_, .call ⟨.value (.func 95), _, _⟩, _, _, _, _⟩ _ _ _ _); refine RH.cW Try.call95 ?_; refine ⟨_, _, _, (by repeat (first | exact Pick.nil | (apply Pick.cons; (with_reducible repeat (first | exact Rem.head | apply Rem.tail))))), l1Put_c (setI ((colV X p).take m)) _ s (setI_str _).1 (by omega), ?_⟩; rintro _ _ ⟨s2, rfl, rfl⟩; refine RL.nm ?_) | ((with_reducible show RH _ _ _ _ _ _ _ _); first | refine RH.val (hK := ?_) | refine RH.upd (hK := ?_) | (refine RH.lr (h := ?_); intro u)) | (with_reducible first | refine Run.seq ?_ | refine Run.region ?_ | refine Run.block ?_ | refine Run.skip ?_ | refine Run.exit ?_ | refine Run.ret ?_) | (with_reducible show Run _ _ (.cond _ _ _) _ _ _; first | refine Run.condT rfl ?_ | refine Run.condF rfl ?_ | refine Run.condD rfl (fun h => ?_) (fun h => ?_) | refine Run.condND rfl (fun h => ?_) (fun h => ?_) | refine Run.condNB rfl (fun h => ?_) (fun h => ?_) | refine Run.cond rfl (fun h => ?_) (fun h => ?_)) | (with_reducible first | refine seqN (K := Run _ _ _ _) ?_ | refine seqE ?_ | refine seqR ?_ | refine blockN ?_ | refine blockR ?_ | refine blockE ?_) | (with_reducible refine blockX ?_ ?_; exact rfl))
        all_goals first
          | (exfalso; omega)
          | (with_reducible refine seqN ?_
             exact ⟨(m + 1, _), by simp; omega, by simp; omega, Ent.of (by dsimp only; exact slA) (by dsimp only; rw [hd]; exact chA)⟩)
      · have e : (colV X p).take m = colV X p := List.take_of_length_le (by omega)
        rw [e]
        repeat' (first | (with_reducible first | refine RL.done ?_ | refine RL.app0 ?_ | refine RL.app1 ?_ | refine RL.app2 ?_ | refine RL.app3 ?_ | refine RL.app4 ?_) | (with_reducible refine RL.wanted ?_ ?_; exact rfl) | ((with_reducible show RH _ _ _ ⟨some 3, .box _ _, _, _, _, _⟩ _ _ _ _); first | (refine RH.boxAgg rfl rfl ?_; rintro _ _ ⟨b3, rfl, rfl⟩) | (refine RH.boxOne rfl rfl ?_; rintro _ _ ⟨b3, rfl, rfl⟩)) | ((with_reducible show RH _ _ _ ⟨some 21, .buildSlice _ _ _, _, _, _, _⟩ _ _ _ _); refine RH.eff rfl rfl (EOpS.e (EOpS.slit (fun x : Int => [vint x]) _ (fun _ _ => rfl) (by repeat (first | exact Elts.nil | (apply Elts.cons; exact rfl; exact CellsOf.one))) rfl rfl)) ?_; rintro _ _ ⟨b21, rfl, rfl⟩) | ((with_reducible show RH _ _ _ _ _ _ _ _); first | refine RH.val (hK := ?_) | refine RH.upd (hK := ?_) | (refine RH.lr (h := ?_); intro u)) | (with_reducible first | refine Run.seq ?_ | refine Run.region ?_ | refine Run.block ?_ | refine Run.skip ?_ | refine Run.exit ?_ | refine Run.ret ?_) | (with_reducible show Run _ _ (.cond _ _ _) _ _ _; first | refine Run.condT rfl ?_ | refine Run.condF rfl ?_ | refine Run.condD rfl (fun h => ?_) (fun h => ?_) | refine Run.condND rfl (fun h => ?_) (fun h => ?_) | refine Run.condNB rfl (fun h => ?_) (fun h => ?_) | refine Run.cond rfl (fun h => ?_) (fun h => ?_)) | (with_reducible first | refine seqN (K := Run _ _ _ _) ?_ | refine seqE ?_ | refine seqR ?_ | refine blockN ?_ | refine blockR ?_ | refine blockE ?_) | (with_reducible refine blockX ?_ ?_; exact rfl))
        all_goals first
          | (exfalso; omega)
          | (refine ⟨eA, _, [], resA, .ch .nil, ?_⟩
             exact ⟨by rw [sdB_no h9 (by assumption)]; rfl, rfl⟩)
          | (have h2 : ((setI (colV X p)).length : Int) = n := by assumption
             with_reducible refine seqN ?_
             exact ⟨p + 1, ⟨by omega, sdB_succ hok h2⟩, by omega, Ent.of slA chA⟩)
          | (have h2 : ((setI (colV X p)).length : Int) = n := Decidable.byContradiction fun h => by first | exact absurd h (by assumption) | omega
             with_reducible refine seqN ?_
             exact ⟨p + 1, ⟨by omega, sdB_succ hok h2⟩, by omega, Ent.of slA chA⟩)
    · subst h9
      repeat' (first | (with_reducible first | refine RL.done ?_ | refine RL.app0 ?_ | refine RL.app1 ?_ | refine RL.app2 ?_ | refine RL.app3 ?_ | refine RL.app4 ?_) | (with_reducible refine RL.wanted ?_ ?_; exact rfl) | ((with_reducible show RH _ _ _ ⟨some 3, .box _ _, _, _, _, _⟩ _ _ _ _); first | (refine RH.boxAgg rfl rfl ?_; rintro _ _ ⟨b3, rfl, rfl⟩) | (refine RH.boxOne rfl rfl ?_; rintro _ _ ⟨b3, rfl, rfl⟩)) | ((with_reducible show RH _ _ _ ⟨some 21, .buildSlice _ _ _, _, _, _, _⟩ _ _ _ _); refine RH.eff rfl rfl (EOpS.e (EOpS.slit (fun x : Int => [vint x]) _ (fun _ _ => rfl) (by repeat (first | exact Elts.nil | (apply Elts.cons; exact rfl; exact CellsOf.one))) rfl rfl)) ?_; rintro _ _ ⟨b21, rfl, rfl⟩) | ((with_reducible show RH _ _ _ _ _ _ _ _); first | refine RH.val (hK := ?_) | refine RH.upd (hK := ?_) | (refine RH.lr (h := ?_); intro u)) | (with_reducible first | refine Run.seq ?_ | refine Run.region ?_ | refine Run.block ?_ | refine Run.skip ?_ | refine Run.exit ?_ | refine Run.ret ?_) | (with_reducible show Run _ _ (.cond _ _ _) _ _ _; first | refine Run.condT rfl ?_ | refine Run.condF rfl ?_ | refine Run.condD rfl (fun h => ?_) (fun h => ?_) | refine Run.condND rfl (fun h => ?_) (fun h => ?_) | refine Run.condNB rfl (fun h => ?_) (fun h => ?_) | refine Run.cond rfl (fun h => ?_) (fun h => ?_)) | (with_reducible first | refine seqN (K := Run _ _ _ _) ?_ | refine seqE ?_ | refine seqR ?_ | refine blockN ?_ | refine blockR ?_ | refine blockE ?_) | (with_reducible refine blockX ?_ ?_; exact rfl))
      all_goals first
        | (exfalso; omega)
        | (refine ⟨eA, _, [], resA, .ch .nil, ?_⟩
           exact ⟨by rw [hok]; rfl, rfl⟩)
  · have hx : subV n os k X = false := by simpa using hx
    rw [hx, Bool.false_and]
    refine Spec.of_run2 (n := 42) Try.func48 rfl Try.results48 Try.ntmps48 rfl ?_
    repeat' (first | (with_reducible first | refine RL.done ?_ | refine RL.app0 ?_ | refine RL.app1 ?_ | refine RL.app2 ?_ | refine RL.app3 ?_ | refine RL.app4 ?_) | (with_reducible refine RL.wanted ?_ ?_; exact rfl) | ((with_reducible show RH _ _ _ ⟨some 3, .box _ _, _, _, _, _⟩ _ _ _ _); first | (refine RH.boxAgg rfl rfl ?_; rintro _ _ ⟨b3, rfl, rfl⟩) | (refine RH.boxOne rfl rfl ?_; rintro _ _ ⟨b3, rfl, rfl⟩)) | ((with_reducible show RH _ _ _ ⟨some 21, .buildSlice _ _ _, _, _, _, _⟩ _ _ _ _); refine RH.eff rfl rfl (EOpS.e (EOpS.slit (fun x : Int => [vint x]) _ (fun _ _ => rfl) (by repeat (first | exact Elts.nil | (apply Elts.cons; exact rfl; exact CellsOf.one))) rfl rfl)) ?_; rintro _ _ ⟨b21, rfl, rfl⟩) | ((with_reducible show RH _ _ _ ⟨_, .call ⟨.value (.func 90), _, _⟩, _, _, _, _⟩ _ _ _ _); refine RH.cP Try.call90 ?_; refine ⟨_, l8Takes_c n os _ X (by omega) ho hl hr, ?_⟩; rintro _ _ ⟨rfl, rfl⟩) | ((with_reducible show RH _ _ _ _ _ _ _ _); first | refine RH.val (hK := ?_) | refine RH.upd (hK := ?_) | (refine RH.lr (h := ?_); intro u)) | (with_reducible first | refine Run.seq ?_ | refine Run.region ?_ | refine Run.block ?_ | refine Run.skip ?_ | refine Run.exit ?_ | refine Run.ret ?_) | (with_reducible show Run _ _ (.cond _ _ _) _ _ _; first | refine Run.condT rfl ?_ | refine Run.condF rfl ?_ | refine Run.condD rfl (fun h => ?_) (fun h => ?_) | refine Run.condND rfl (fun h => ?_) (fun h => ?_) | refine Run.condNB rfl (fun h => ?_) (fun h => ?_) | refine Run.cond rfl (fun h => ?_) (fun h => ?_)) | (with_reducible first | refine seqN (K := Run _ _ _ _) ?_ | refine seqE ?_ | refine seqR ?_ | refine blockN ?_ | refine blockR ?_ | refine blockE ?_) | (with_reducible refine blockX ?_ ?_; exact rfl))
    all_goals first
      | (exfalso; simp_all; done)
      | (refine ⟨eA, _, [], resA, .ch .nil, ?_⟩
         exact ⟨rfl, rfl⟩)
set_option maxRecDepth 10000 in
set_option maxHeartbeats 2000000 in
theorem implSd_c (n : Int) (os : List (Int × List Int)) (k : Int) (X : List (List Int)) (hol : os.length ≤ 4611686018427387904) (ho : OpsLen os) (hl : X.length ≤ 4398046511104) (hr : ∀ t ∈ X, t.length ≤ 4611686018427387904) :
    Spec Try.prog 49 [vagg [vint n, vsl 2 (fun y : Int × (List Int) => [vint y.1, vsl 1 (fun x : Int => [vint x]) y.2]) os], vint k, vsl 1 (fun t : List Int => [vsl 1 (fun x : Int => [vint x]) t]) X] [] (fun r S' => r = vtup [vbool (subV n os k X && sdB n k.toNat X), vbool (subV n os k X)] ∧ S' = []) := by
  by_cases hx : subV n os k X = true
  · obtain ⟨ha, hk, hxm, htup, hsX, _⟩ := subV_at hx
    obtain ⟨hn1, hn8, _, _⟩ := algB_at ha
    obtain ⟨k2, rfl⟩ : ∃ k2 : Nat, k = k2 := ⟨k.toNat, by omega⟩
    obtain ⟨N, rfl⟩ : ∃ N : Nat, n = N := ⟨n.toNat, by omega⟩
    rw [Int.toNat_natCast] at htup
    have hmost := mostV_le os
    rw [hx, Bool.true_and, Int.toNat_natCast]
    refine Spec.of_run2 (n := 44) Try.func49 rfl Try.results49 Try.ntmps49 rfl ?_
    repeat' (first | (with_reducible first | refine RL.done ?_ | refine RL.app0 ?_ | refine RL.app1 ?_ | refine RL.app2 ?_ | refine RL.app3 ?_ | refine RL.app4 ?_ | refine RD.app0 ?_ | refine RD.app1 ?_ | refine RD.app2 ?_) | (with_reducible refine RL.wanted ?_ ?_; exact rfl) | ((with_reducible show RH _ _ _ ⟨some 3, .box _ _, _, _, _, _⟩ _ _ _ _); first | (refine RH.boxAgg rfl rfl ?_; rintro _ _ ⟨b3, rfl, rfl⟩) | (refine RH.boxOne rfl rfl ?_; rintro _ _ ⟨b3, rfl, rfl⟩)) | ((with_reducible show RH _ _ _ ⟨some 24, .makeSlice _ _ _, _, _, _, _⟩ _ _ _ _); refine RH.make (α := Bool) rfl (fun x => [vbool x]) false (fun c => .cons rfl .nil) rfl rfl (by omega) (by omega) (by omega) ?_; rintro _ _ ⟨b24, rfl, rfl⟩) | ((with_reducible show RH _ _ _ ⟨_, .call ⟨.value (.func 92), _, _⟩, _, _, _, _⟩ _ _ _ _); refine RH.cP Try.call92 ?_; refine ⟨_, hasSubpower_c _ os _ X (by omega) ho hl hr, ?_⟩; rintro _ _ ⟨rfl, rfl⟩) | ((with_reducible show RH _ _ _ _ _ _ _ _); first | refine RH.val (hK := ?_) | refine RH.upd (hK := ?_) | (refine RH.lr (h := ?_); intro u)) | (with_reducible first | refine Run.seq ?_ | refine Run.region ?_ | refine Run.block ?_ | refine Run.skip ?_ | refine Run.exit ?_ | refine Run.ret ?_) | (with_reducible show Run _ _ (.cond _ _ _) _ _ _; first | refine Run.condT rfl ?_ | refine Run.condF rfl ?_ | refine Run.condD rfl (fun h => ?_) (fun h => ?_) | refine Run.condND rfl (fun h => ?_) (fun h => ?_) | refine Run.condNB rfl (fun h => ?_) (fun h => ?_) | refine Run.cond rfl (fun h => ?_) (fun h => ?_)) | (with_reducible first | refine seqN (K := Run _ _ _ _) ?_ | refine seqE ?_ | refine seqR ?_ | refine blockN ?_ | refine blockR ?_ | refine blockE ?_) | (with_reducible refine blockX ?_ ?_; exact rfl))
    all_goals first
      | (exfalso; simp_all; done)
      | skip
    refine Run.loop (α := Nat) (fun p => [(1, vint (k2 : Int)), (2, vsl 1 (fun t : List Int => [vsl 1 (fun x : Int => [vint x]) t]) X), (3, vptr b3 0), (8, vint (p : Int))]) (fun _ => [hcells b3 [vint (N : Int), vsl 2 (fun y : Int × (List Int) => [vint y.1, vsl 1 (fun x : Int => [vint x]) y.2]) os]]) (fun p => p ≤ k2 ∧ sdB N p X = true) (fun p => k2 - p) 0 ⟨Nat.zero_le _, by simp [sdB]⟩ (Ent.of slA chA) ?_
    rintro p ⟨hp, hok⟩
    (try dsimp only at hp hok ⊢)
    rcases Nat.lt_or_eq_of_le hp with h9 | h9
    · have hcl : (colV X p).length = X.length := by simp [colV]
      have hin := colV_in htup h9
      repeat' (first | (with_reducible first | refine RL.done ?_ | refine RL.app0 ?_ | refine RL.app1 ?_ | refine RL.app2 ?_ | refine RL.app3 ?_ | refine RL.app4 ?_ | refine RD.app0 ?_ | refine RD.app1 ?_ | refine RD.app2 ?_) | (with_reducible refine RL.wanted ?_ ?_; exact rfl) | ((with_reducible show RH _ _ _ ⟨some 3, .box _ _, _, _, _, _⟩ _ _ _ _); first | (refine RH.boxAgg rfl rfl ?_; rintro _ _ ⟨b3, rfl, rfl⟩) | (refine RH.boxOne rfl rfl ?_; rintro _ _ ⟨b3, rfl, rfl⟩)) | ((with_reducible show RH _ _ _ ⟨some 24, .makeSlice _ _ _, _, _, _, _⟩ _ _ _ _); refine RH.make (α := Bool) rfl (fun x => [vbool x]) false (fun c => .cons rfl .nil) rfl rfl (by omega) (by omega) (by omega) ?_; rintro _ _ ⟨b24, rfl, rfl⟩) | ((with_reducible show RH _ _ _ _ _ _ _ _); first | refine RH.val (hK := ?_) | refine RH.upd (hK := ?_) | (refine RH.lr (h := ?_); intro u)) | (with_reducible first | refine Run.seq ?_ | refine Run.region ?_ | refine Run.block ?_ | refine Run.skip ?_ | refine Run.exit ?_ | refine Run.ret ?_) | (with_reducible show Run _ _ (.cond _ _ _) _ _ _; first | refine Run.condT rfl ?_ | refine Run.condF rfl ?_ | refine Run.condD rfl (fun h => ?_) (fun h => ?_) | refine Run.condND rfl (fun h => ?_) (fun h => ?_) | refine Run.condNB rfl (fun h => ?_) (fun h => ?_) | refine Run.cond rfl (fun h => ?_) (fun h => ?_)) | (with_reducible first | refine seqN (K := Run _ _ _ _) ?_ | refine seqE ?_ | refine seqR ?_ | refine blockN ?_ | refine blockR ?_ | refine blockE ?_) | (with_reducible refine blockX ?_ ?_; exact rfl))
      all_goals first
        | (exfalso; omega)
        | skip
      refine Run.loop (α := Nat) (fun m => [(1, vint (k2 : Int)), (2, vsl 1 (fun t : List Int => [vsl 1 (fun x : Int => [vint x]) t]) X), (3, vptr b3 0), (8, vint (p : Int)), (9, vsb b24 N N), (25, vsl 1 (fun t : List Int => [vsl 1 (fun x : Int => [vint x]) t]) X), (26, vint (X.length : Int)), (27, vint (m : Int))]) (fun m => [harr b24 1 (fun x : Bool => [vbool x]) (mkB N ((colV X p).take m)) (N * 1), hcells b3 [vint (N : Int), vsl 2 (fun y : Int × (List Int) => [vint y.1, vsl 1 (fun x : Int => [vint x]) y.2]) os]]) (fun m => m ≤ X.length) (fun m => X.length - m) 0 (Nat.zero_le _) (Ent.of slA (.cons .head (by rw [List.take_zero, ← mkB_nil2]) chA)) ?_
      intro m hm
      have hml := mkB_length N ((colV X p).take m)
      rcases Nat.lt_or_eq_of_le hm with h8 | h8
      · have hxl := (htup _ (List.getElem_mem h8)).1
        have hxb := elB_at (htup _ (List.getElem_mem h8)).2 (j := p) (by omega)
        have e1 : (colV X p)[m]'(by omega) = (X[m])[p]'(by omega) := by
          simp only [colV, List.getElem_map]
          rw [getD_g _ _ _ (by omega)]
        have hms := mkB_set N (colV X p) m (by omega) (by rw [e1]; omega)
        rw [e1] at hms
        repeat' (first | (with_reducible first | refine RL.done ?_ | refine RL.app0 ?_ | refine RL.app1 ?_ | refine RL.app2 ?_ | refine RL.app3 ?_ | refine RL.app4 ?_ | refine RD.app0 ?_ | refine RD.app1 ?_ | refine RD.app2 ?_) | (with_reducible refine RL.wanted ?_ ?_; exact rfl) | ((with_reducible show RH _ _ _ ⟨some 3, .box _ _, _, _, _, _⟩ _ _ _ _); first | (refine RH.boxAgg rfl rfl ?_; rintro _ _ ⟨b3, rfl, rfl⟩) | (refine RH.boxOne rfl rfl ?_; rintro _ _ ⟨b3, rfl, rfl⟩)) | ((with_reducible show RH _ _ _ ⟨some 24, .makeSlice _ _ _, _, _, _, _⟩ _ _ _ _); refine RH.make (α := Bool) rfl (fun x => [vbool x]) false (fun c => .cons rfl .nil) rfl rfl (by omega) (by omega) (by omega) ?_; rintro _ _ ⟨b24, rfl, rfl⟩) | ((with_reducible show RH _ _ _ _ _ _ _ _); first | refine RH.val (hK := ?_) | refine RH.upd (hK := ?_) | (refine RH.lr (h := ?_); intro u)) | (with_reducible first | refine Run.seq ?_ | refine Run.region ?_ | refine Run.block ?_ | refine Run.skip ?_ | refine Run.exit ?_ | refine Run.ret ?_) | (with_reducible show Run _ _ (.cond _ _ _) _ _ _; first | refine Run.condT rfl ?_ | refine Run.condF rfl ?_ | refine Run.condD rfl (fun h => ?_) (fun h => ?_) | refine Run.condND rfl (fun h => ?_) (fun h => ?_) | refine Run.condNB rfl (fun h => ?_) (fun h => ?_) | refine Run.cond rfl (fun h => ?_) (fun h => ?_)) | (with_reducible first | refine seqN (K := Run _ _ _ _) ?_ | refine seqE ?_ | refine seqR ?_ | refine blockN ?_ | refine blockR ?_ | refine blockE ?_) | (with_reducible refine blockX ?_ ?_; exact rfl))
        all_goals first
          | (exfalso; omega)
          | (with_reducible refine seqN ?_
             exact ⟨m + 1, by omega, by omega, Ent.of slA (.cons (by with_reducible repeat (first | exact Rem.head | apply Rem.tail)) (congrArg (fun ys => harr b24 1 (fun x : Bool => [vbool x]) ys (N * 1)) hms) chA)⟩)
      · have e : (colV X p).take m = colV X p := List.take_of_length_le (by omega)
        rw [e] at hml ⊢
        have hts := trueAt_set hin
        have hfew := setI_few hin (by omega)
        repeat' (first | (with_reducible first | refine RL.done ?_ | refine RL.app0 ?_ | refine RL.app1 ?_ | refine RL.app2 ?_ | refine RL.app3 ?_ | refine RL.app4 ?_ | refine RD.app0 ?_ | refine RD.app1 ?_ | refine RD.app2 ?_) | (with_reducible refine RL.wanted ?_ ?_; exact rfl) | ((with_reducible show Run _ _ (.region 12 _ true) _ _ _); refine Run.regionD (fun i => false) rfl ?_; change RD _ _ _ _ _ _ 6 (dm 6 0) _ _) | ((with_reducible show RD _ _ 12 _ _ _ _ _ _ _); first | ((with_reducible show RD _ _ _ _ _ _ _ (dm 6 0) _ _); refine RD.tk 0 (dm 6 38) (dm 6 1) (hK := ?_)) | ((with_reducible show RD _ _ _ _ _ _ _ (dm 6 1) _ _); refine RD.tk 3 (dm 6 48) (dm 6 9) (hK := ?_)) | ((with_reducible show RD _ _ _ _ _ _ _ (dm 6 9) _ _); first | refine RD.tk 4 (dm 6 32) (dm 6 25) (hK := ?_) | (refine RD.lr 4 (dm 6 32) (dm 6 25) (h := ?_); intro u)) | ((with_reducible show RD _ _ _ _ _ _ _ (dm 6 25) _ _); refine RD.a1 1 ?_) | ((with_reducible show RD _ _ _ _ _ _ _ (dm 6 27) _ _); refine RD.tk 2 (dm 6 32) (dm 6 31) (hK := ?_)) | ((with_reducible show RD _ _ _ _ _ _ _ (dm 6 31) _ _); refine RD.tk 5 (dm 6 0) (dm 6 63) (hK := ?_)) | ((with_reducible show RD _ _ _ _ _ _ 0 _ _ _); refine RD.done (by kernel_rfl) ?_)) | ((with_reducible show RO _ _ 12 _ _ _ _ _ _ _ _); ((with_reducible show RO _ _ _ _ _ _ _ (dm 6 25) 1 _ _); (refine RO.cL (dm 6 27) Try.call96 ?_; apply Exists.intro; apply And.intro; (focus ((repeat (first | exact LVs.nil | (apply LVs.sl; (with_reducible repeat (first | exact Has.head | apply Has.tail)); exact inferInstance; exact rfl) | (apply LVs.arr; (with_reducible repeat (first | exact Has.head | apply Has.tail)); (first | exact rfl | omega | simp); exact rfl) | (apply LVs.cut; (with_reducible repeat (first | exact Has.head | apply Has.tail)); exact inferInstance; exact rfl; first | omega | (simp; omega)) | apply LVs.agg | apply LVs.refl)); done)); refine ⟨_, marked_c (mkB N (colV X p)) (by rw [mkB_length]; omega), (by intro r H h; first | (obtain ⟨rfl, rfl⟩ := h; exact ⟨inferInstance, inferInstance⟩) | (obtain ⟨_, rfl, rfl⟩ := h; exact ⟨inferInstance, inferInstance⟩) | (obtain ⟨_, _, rfl, rfl⟩ := h; exact ⟨inferInstance, inferInstance⟩)), ?_⟩; rintro _ _ ⟨s2, rfl, rfl⟩; refine RD.nm ?_))) | ((with_reducible show RH _ _ _ ⟨some 3, .box _ _, _, _, _, _⟩ _ _ _ _); first | (refine RH.boxAgg rfl rfl ?_; rintro _ _ ⟨b3, rfl, rfl⟩) | (refine RH.boxOne rfl rfl ?_; rintro _ _ ⟨b3, rfl, rfl⟩)) | ((with_reducible show RH _ _ _ ⟨some 24, .makeSlice _ _ _, _, _, _, _⟩ _ _ _ _); refine RH.make (α := Bool) rfl (fun x => [vbool x]) false (fun c => .cons rfl .nil) rfl rfl (by omega) (by omega) (by omega) ?_; rintro _ _ ⟨b24, rfl, rfl⟩) | ((with_reducible show RH _ _ _ ⟨_, .call ⟨.value (.func 96), _, _⟩, _, _, _, _⟩ _ _ _ _); refine RH.cL Try.call96 ?_; apply Exists.intro; apply And.intro; (focus ((repeat (first | exact LVs.nil | (apply LVs.sl; (with_reducible repeat (first | exact Has.head | apply Has.tail)); exact inferInstance; exact rfl) | (apply LVs.arr; (with_reducible repeat (first | exact Has.head | apply Has.tail)); (first | exact rfl | omega | simp); exact rfl) | (apply LVs.cut; (with_reducible repeat (first | exact Has.head | apply Has.tail)); exact inferInstance; exact rfl; first | omega | (simp; omega)) | apply LVs.agg | apply LVs.refl)); done)); refine ⟨_, marked_c (mkB N (colV X p)) (by rw [mkB_length]; omega), (by intro r H h; first | (obtain ⟨rfl, rfl⟩ := h; exact ⟨inferInstance, inferInstance⟩) | (obtain ⟨_, rfl, rfl⟩ := h; exact ⟨inferInstance, inferInstance⟩) | (obtain ⟨_, _, rfl, rfl⟩ := h; exact ⟨inferInstance, inferInstance⟩)), ?_⟩; rintro _ _ ⟨s2, rfl, rfl⟩; refine RL.nm ?_) | ((with_reducible show RH _ _ _ _ _ _ _ _); first | refine RH.val (hK := ?_) | refine RH.upd (hK := ?_) | (refine RH.lr (h := ?_); intro u)) | (with_reducible first | refine Run.seq ?_ | refine Run.region ?_ | refine Run.block ?_ | refine Run.skip ?_ | refine Run.exit ?_ | refine Run.ret ?_) | (with_reducible show Run _ _ (.cond _ _ _) _ _ _; first | refine Run.condT rfl ?_ | refine Run.condF rfl ?_ | refine Run.condD rfl (fun h => ?_) (fun h => ?_) | refine Run.condND rfl (fun h => ?_) (fun h => ?_) | refine Run.condNB rfl (fun h => ?_) (fun h => ?_) | refine Run.cond rfl (fun h => ?_) (fun h => ?_)) | (with_reducible first | refine seqN (K := Run _ _ _ _) ?_ | refine seqE ?_ | refine seqR ?_ | refine blockN ?_ | refine blockR ?_ | refine blockE ?_) | (with_reducible refine blockX ?_ ?_; exact rfl))
        all_goals first
          | (exfalso; omega)
          | (have h2 : ¬ ((setI (colV X p)).length : Int) = N := by rw [← hts]; omega
             refine ⟨eA, _, [], resA, .ch .nil, ?_⟩
             exact ⟨by rw [sdB_no h9 h2]; rfl, rfl⟩)
          | (have h2 : ((setI (colV X p)).length : Int) = N := by rw [← hts] at hfew ⊢; omega
             with_reducible refine seqN ?_
             exact ⟨p + 1, ⟨by omega, sdB_succ hok h2⟩, by omega, Ent.of slA chA⟩)
    · subst h9
      repeat' (first | (with_reducible first | refine RL.done ?_ | refine RL.app0 ?_ | refine RL.app1 ?_ | refine RL.app2 ?_ | refine RL.app3 ?_ | refine RL.app4 ?_ | refine RD.app0 ?_ | refine RD.app1 ?_ | refine RD.app2 ?_) | (with_reducible refine RL.wanted ?_ ?_; exact rfl) | ((with_reducible show RH _ _ _ ⟨some 3, .box _ _, _, _, _, _⟩ _ _ _ _); first | (refine RH.boxAgg rfl rfl ?_; rintro _ _ ⟨b3, rfl, rfl⟩) | (refine RH.boxOne rfl rfl ?_; rintro _ _ ⟨b3, rfl, rfl⟩)) | ((with_reducible show RH _ _ _ ⟨some 24, .makeSlice _ _ _, _, _, _, _⟩ _ _ _ _); refine RH.make (α := Bool) rfl (fun x => [vbool x]) false (fun c => .cons rfl .nil) rfl rfl (by omega) (by omega) (by omega) ?_; rintro _ _ ⟨b24, rfl, rfl⟩) | ((with_reducible show RH _ _ _ _ _ _ _ _); first | refine RH.val (hK := ?_) | refine RH.upd (hK := ?_) | (refine RH.lr (h := ?_); intro u)) | (with_reducible first | refine Run.seq ?_ | refine Run.region ?_ | refine Run.block ?_ | refine Run.skip ?_ | refine Run.exit ?_ | refine Run.ret ?_) | (with_reducible show Run _ _ (.cond _ _ _) _ _ _; first | refine Run.condT rfl ?_ | refine Run.condF rfl ?_ | refine Run.condD rfl (fun h => ?_) (fun h => ?_) | refine Run.condND rfl (fun h => ?_) (fun h => ?_) | refine Run.condNB rfl (fun h => ?_) (fun h => ?_) | refine Run.cond rfl (fun h => ?_) (fun h => ?_)) | (with_reducible first | refine seqN (K := Run _ _ _ _) ?_ | refine seqE ?_ | refine seqR ?_ | refine blockN ?_ | refine blockR ?_ | refine blockE ?_) | (with_reducible refine blockX ?_ ?_; exact rfl))
      all_goals first
        | (exfalso; omega)
        | (refine ⟨eA, _, [], resA, .ch .nil, ?_⟩
           exact ⟨by rw [hok]; rfl, rfl⟩)
  · have hx : subV n os k X = false := by simpa using hx
    rw [hx, Bool.false_and]
    refine Spec.of_run2 (n := 44) Try.func49 rfl Try.results49 Try.ntmps49 rfl ?_
    repeat' (first | (with_reducible first | refine RL.done ?_ | refine RL.app0 ?_ | refine RL.app1 ?_ | refine RL.app2 ?_ | refine RL.app3 ?_ | refine RL.app4 ?_ | refine RD.app0 ?_ | refine RD.app1 ?_ | refine RD.app2 ?_) | (with_reducible refine RL.wanted ?_ ?_; exact rfl) | ((with_reducible show RH _ _ _ ⟨some 3, .box _ _, _, _, _, _⟩ _ _ _ _); first | (refine RH.boxAgg rfl rfl ?_; rintro _ _ ⟨b3, rfl, rfl⟩) | (refine RH.boxOne rfl rfl ?_; rintro _ _ ⟨b3, rfl, rfl⟩)) | ((with_reducible show RH _ _ _ ⟨some 24, .makeSlice _ _ _, _, _, _, _⟩ _ _ _ _); refine RH.make (α := Bool) rfl (fun x => [vbool x]) false (fun c => .cons rfl .nil) rfl rfl (by omega) (by omega) (by omega) ?_; rintro _ _ ⟨b24, rfl, rfl⟩) | ((with_reducible show RH _ _ _ ⟨_, .call ⟨.value (.func 92), _, _⟩, _, _, _, _⟩ _ _ _ _); refine RH.cP Try.call92 ?_; refine ⟨_, hasSubpower_c _ os _ X (by omega) ho hl hr, ?_⟩; rintro _ _ ⟨rfl, rfl⟩) | ((with_reducible show RH _ _ _ _ _ _ _ _); first | refine RH.val (hK := ?_) | refine RH.upd (hK := ?_) | (refine RH.lr (h := ?_); intro u)) | (with_reducible first | refine Run.seq ?_ | refine Run.region ?_ | refine Run.block ?_ | refine Run.skip ?_ | refine Run.exit ?_ | refine Run.ret ?_) | (with_reducible show Run _ _ (.cond _ _ _) _ _ _; first | refine Run.condT rfl ?_ | refine Run.condF rfl ?_ | refine Run.condD rfl (fun h => ?_) (fun h => ?_) | refine Run.condND rfl (fun h => ?_) (fun h => ?_) | refine Run.condNB rfl (fun h => ?_) (fun h => ?_) | refine Run.cond rfl (fun h => ?_) (fun h => ?_)) | (with_reducible first | refine seqN (K := Run _ _ _ _) ?_ | refine seqE ?_ | refine seqR ?_ | refine blockN ?_ | refine blockR ?_ | refine blockE ?_) | (with_reducible refine blockX ?_ ?_; exact rfl))
    all_goals first
      | (exfalso; simp_all; done)
      | (refine ⟨eA, _, [], resA, .ch .nil, ?_⟩
         exact ⟨rfl, rfl⟩)
end Go.Proofs.Ytodlpdedldhebaa
