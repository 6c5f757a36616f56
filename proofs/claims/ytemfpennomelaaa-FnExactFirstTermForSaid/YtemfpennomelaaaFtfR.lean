/- The reference's first term for a tuple: spec.FirstTermFor. Proved for this program; conditions: lists that fit memory. -/
import Derived.Test.YtemfpennomelaaaFtfK
import Derived.Test.YtemfpennomelaaaGen
namespace Go.Proofs.Ytemfpennomelaaa
open Go Go.Proofs
set_option linter.unusedVariables false
/-- what is asked for can be answered -/
def ftB (n : Int) (os : List (Int × List Int)) (k : Int) (G : List (List Int)) (t : List Int) : Bool := gsOk n os k G && decide (G.length ≤ 6) && (decide ((t.length : Int) = k) && elB n t)
/-- the answer: the least term, or none -/
def FtIs (n : Int) (os : List (Int × List Int)) (k : Int) (G : List (List Int)) (t : List Int) (L : List Int) (o : Bool) : Prop :=
  (ftB n os k G t = false ∧ L = [] ∧ o = false) ∨
  (ftB n os k G t = true ∧ (SpanNo n os k.toNat G ∨ ¬ Clo n os k.toNat G t) ∧ L = [] ∧ o = false) ∨
  (ftB n os k G t = true ∧ ∃ (X : List (List Int)) (b : List Int → List Int), (∀ u, u ∈ X ↔ Clo n os k.toNat G u) ∧ SpanYes n os k.toNat G X ∧ t ∈ X ∧ BestT n os k.toNat G X b ∧ L = b t ∧ o = decide (b t ≠ []))
theorem FtIs.uniq {n : Int} {os : List (Int × List Int)} {k : Int} {G : List (List Int)} {t : List Int} {L L' : List Int} {o o' : Bool} (h : FtIs n os k G t L o) (h' : FtIs n os k G t L' o') : L = L' ∧ o = o' := by
  rcases h with ⟨a, rfl, rfl⟩ | ⟨a, b, rfl, rfl⟩ | ⟨a, X, f, h1, h2, h3, h4, rfl, rfl⟩ <;> rcases h' with ⟨a', rfl, rfl⟩ | ⟨a', b', rfl, rfl⟩ | ⟨a', X', f', h1', h2', h3', h4', rfl, rfl⟩
  · exact ⟨rfl, rfl⟩
  · rw [a] at a'; cases a'
  · rw [a] at a'; cases a'
  · rw [a] at a'; cases a'
  · exact ⟨rfl, rfl⟩
  · rcases b with b | b
    · exact (span_not h2' b).elim
    · exact absurd ((h1' t).1 h3') b
  · rw [a] at a'; cases a'
  · rcases b' with b | b
    · exact (span_not h2 b).elim
    · exact absurd ((h1 t).1 h3) b
  · have e := h4.uniq h4' (fun u hu => (h1 u).2 hu) (fun u hu => (h1' u).2 hu) h3 h3'
    rw [e]; exact ⟨rfl, rfl⟩
/-! ### there is an answer -/
theorem min_ex {P : List Int → Prop} (f : List Int → Nat) : ∀ (N : Nat) (u : List Int), P u → f u ≤ N → ∃ u, P u ∧ ∀ v, P v → f u ≤ f v
  | 0, u, hu, h => ⟨u, hu, fun v _ => by omega⟩
  | N + 1, u, hu, h => by
    by_cases h2 : ∃ v, P v ∧ f v < f u
    · obtain ⟨v, h3, h4⟩ := h2
      exact min_ex f N v h3 (by omega)
    · exact ⟨u, hu, fun v hv => Nat.le_of_not_lt fun h5 => h2 ⟨v, hv, h5⟩⟩
theorem best_ex {n : Int} {os : List (Int × List Int)} {k : Nat} {G : List (List Int)} (hG : G.length ≤ 6) (ho : os.length ≤ 4) (L : List (List Int)) : ∃ b, BestT n os k G L b := by
  obtain ⟨W, hW⟩ : ∃ W : Nat, W = 32 ^ 60 := ⟨_, rfl⟩
  have hex : ∀ t : List Int, ∃ u : List Int, (u ≠ [] → Made n os k G u t ∧ u.length ≤ 60) ∧ ∀ v, Made n os k G v t → v.length ≤ 60 → u ≠ [] ∧ tle u v := fun t => by
    by_cases h : ∃ u, Made n os k G u t ∧ u.length ≤ 60
    · obtain ⟨u0, h0⟩ := h
      obtain ⟨u, h1, h2⟩ := min_ex (P := fun u => Made n os k G u t ∧ u.length ≤ 60) (rk W) (rk W u0) u0 h0 (Nat.le_refl _)
      refine ⟨u, fun _ => h1, fun v h3 h4 => ⟨h1.1.ne, tle_of_not ?_⟩⟩
      cases h5 : tlt v u with
      | false => rfl
      | true =>
        have h6 := rk_lt hW (made_lett hG ho h3) (made_lett hG ho h1.1) h3.ne h4 (.inr h5)
        have h7 := h2 v ⟨h3, h4⟩
        omega
    · exact ⟨[], fun h => absurd rfl h, fun v h3 h4 => absurd ⟨v, h3, h4⟩ h⟩
  refine ⟨fun t => Classical.choose (hex t), fun t ht hne => (Classical.choose_spec (hex t)).1 hne, fun i h => ?_, fun j hj ts h1 h2 h3 => ?_⟩
  · exact (Classical.choose_spec (hex G[i])).2 _ (.gen h) (by simp)
  · refine (Classical.choose_spec (hex _)).2 _ (.op hj h1 (by rw [List.length_map]) fun i k1 k2 => ?_) (by rw [List.length_cons]; omega)
    rw [List.getElem_map]
    exact ((Classical.choose_spec (hex ts[i])).1 (h2 _ (List.getElem_mem k2)).2).1
theorem ftB_at {n : Int} {os : List (Int × List Int)} {k : Int} {G : List (List Int)} {t : List Int} (h : ftB n os k G t = true) : gsOk n os k G = true ∧ G.length ≤ 6 ∧ (t.length : Int) = k ∧ elB n t = true := by
  simp only [ftB, Bool.and_eq_true, decide_eq_true_eq] at h
  exact ⟨h.1.1, h.1.2, h.2.1, h.2.2⟩
theorem ft_ex (n : Int) (os : List (Int × List Int)) (k : Int) (G : List (List Int)) (t : List Int) : ∃ (L : List Int) (o : Bool), FtIs n os k G t L o := by
  cases hg : ftB n os k G t with
  | false => exact ⟨[], false, .inl ⟨hg, rfl, rfl⟩⟩
  | true =>
    obtain ⟨hgs, h6, _, _⟩ := ftB_at hg
    obtain ⟨ha, _, _, _⟩ := gsOk_at hgs
    obtain ⟨_, _, ho4, _⟩ := algB_at ha
    rcases span_ex n os k.toNat G (mostV os + 1) [] .nil (fun t h => by cases h) (by simp) with ⟨X, hX⟩ | h
    · by_cases hc : Clo n os k.toNat G t
      · obtain ⟨b, hb⟩ := best_ex (n := n) (k := k.toNat) h6 (by omega) X
        exact ⟨b t, decide (b t ≠ []), .inr (.inr ⟨hg, X, b, fun u => hX.2.1 u, hX, (hX.2.1 t).2 hc, hb, rfl, rfl⟩)⟩
      · exact ⟨[], false, .inr (.inl ⟨hg, .inr hc, rfl, rfl⟩)⟩
    · exact ⟨[], false, .inr (.inl ⟨hg, .inl h, rfl, rfl⟩)⟩
/-- a list in a pair of results, frozen at the end of a call -/
theorem Spec.frzTupX {P : Program} {f : FuncId} {args : List VP} {S : List HP} {α : Type} {t : TR α} {r : α → List VP} [Frz t r] {q : List α → VP} {K : List α → Prop} (hv : Spec P f args S (fun p S' => ∃ (xs : List α) (s : Sv), p = vtup [vlit (vsv s), q xs] ∧ S' = [hsl t (vsv s) xs] ∧ K xs)) :
    Spec P f args S (fun p S' => ∃ xs : List α, p = vtup [vsl t.k r xs, q xs] ∧ S' = [] ∧ K xs) :=
  ⟨fun c vs ha hs => (hv.run c vs ha hs).mono fun e w' ⟨v, F', p, S', h1, h2, h3, h4, xs, s, h5, h6, h7⟩ => by
    subst h5 h6
    obtain ⟨F2, k1, _, k2⟩ := (Ent.frzKn (φ := []) (r := r) .head) ⟨F', c.U, w'⟩ 0 { tmps := #[], defers := [] } ⟨rfl, rfl, fun t p h => by cases h⟩ h4
    obtain ⟨fs, k3⟩ := k2
    obtain ⟨f1, gs, rfl, k4⟩ := k3.head
    obtain ⟨us, rfl, k5⟩ := (vtup [vlit (vsv s), q xs]).mono k1.v h3
    cases k5 with
    | cons k6 k7 =>
      refine ⟨_, F2, vtup [vsl t.k r xs, q xs], [], h1, h2.trans k1, ⟨_, rfl, .cons ?_ k7⟩, SEnt.drop _ _ k3, xs, rfl, rfl, h7⟩
      rw [show _ = vsv s from k6]
      exact k4.2⟩
abbrev FtRes (L : List Int) (o : Bool) (r : VP) (S' : List HP) : Prop := ∃ s : Sv, r = vtup [vlit (vsv s), vbool o] ∧ S' = [hsl tInt (vsv s) L]
theorem l8CloseX_c (n : Int) (os : List (Int × List Int)) (k : Nat) (G : List (List Int)) (ha : algB n os = true) (hk : k ≤ 1000000) (hG : ∀ t ∈ G, TupOk n k t) (hg : G.length ≤ 1000) :
    Spec Try.prog 22 [vagg [vint n, vsl 2 (fun y : Int × (List Int) => [vint y.1, vsl 1 (fun x : Int => [vint x]) y.2]) os], vint (k : Int), vsl 1 (fun t : List Int => [vsl 1 (fun x : Int => [vint x]) t]) G] [] (fun r S' => ∃ X : List (List Int), r = vtup [vsl 1 (fun t : List Int => [vsl 1 (fun x : Int => [vint x]) t]) X, vbool (decide ((X.length : Int) ≤ (mostV os : Int)))] ∧ S' = [] ∧ ClsYes n os k G X ∧ X.length ≤ 1004) :=
  Spec.frzTupX (t := tS tInt) (q := fun X => vbool (decide ((X.length : Int) ≤ (mostV os : Int)))) (l8Close_c n os k G ha hk hG hg)
theorem ft_len {n : Int} {os : List (Int × List Int)} {k : Nat} {G X O : List (List Int)} (hn : X.Nodup) (hO : O.length = X.length) (hb : BestT n os k G X (bO X O)) {p : Nat} (hp : p < X.length) : (O[p]'(by omega)).length ≤ 4398046511104 := by
  have e : bO X O X[p] = O[p]'(by omega) := by rw [bO_at hn hp, List.getD_eq_getElem?_getD, List.getElem?_eq_getElem (by omega)]; rfl
  by_cases h : O[p]'(by omega) = []
  · rw [h]; exact Nat.zero_le _
  · have := (hb.sound X[p] (List.getElem_mem hp) (by rw [e]; exact h)).2
    rw [e] at this
    omega
theorem cls_k {n : Int} {os : List (Int × List Int)} {k : Nat} {G X : List (List Int)} (ha : algB n os = true) (hG : ∀ t ∈ G, TupOk n k t) (hk : k ≤ 1048576) (hX : ClsYes n os k G X) : ∀ u ∈ X, u.length = k := fun u hu => ((hX.2.1 u hu).ok ha hk hG).1
theorem cls_tl {n : Int} {os : List (Int × List Int)} {k : Nat} {G X : List (List Int)} {t : List Int} (ha : algB n os = true) (hG : ∀ t ∈ G, TupOk n k t) (hk : k ≤ 1048576) (ht : t.length = k) (hX : ClsYes n os k G X) : ∀ u ∈ X, u.length = t.length := fun u hu => by rw [cls_k ha hG hk hX u hu, ht]
theorem place_lt {X : List (List Int)} (hs : Sorted X) {t : List Int} (h : t ∈ X) : placeOf X t < X.length := let ⟨hp, _⟩ := place_in hs h; hp
theorem l8TermsX_c (n : Int) (os : List (Int × List Int)) (k : Nat) (G X : List (List Int)) (t : List Int) (ha : algB n os = true) (hk : k ≤ 1000000) (hG : ∀ t ∈ G, TupOk n k t) (hg : G.length ≤ 1000) (hS : Str X) (hX : ∀ t, t ∈ X ↔ Clo n os k G t) (hXl : X.length ≤ 300) (hp : placeOf X t < X.length) :
    Spec Try.prog 24 [vagg [vint n, vsl 2 (fun y : Int × (List Int) => [vint y.1, vsl 1 (fun x : Int => [vint x]) y.2]) os], vint (k : Int), vsl 1 (fun t : List Int => [vsl 1 (fun x : Int => [vint x]) t]) G, vsl 1 (fun t : List Int => [vsl 1 (fun x : Int => [vint x]) t]) X] [] (fun r S' => ∃ (s : Sv) (O : List (List Int)), r = vlit (vsv s) ∧ S' = [hsl tNl (vsv s) O] ∧ O.length = X.length ∧ BestT n os k G X (bO X O) ∧ placeOf X t < O.length) :=
  (l8Terms_c n os k G X ha hk hG hg hS hX hXl).mono fun r S' ⟨s, O, h1, h2, h3, h4⟩ => ⟨s, O, h1, h2, h3, h4, by omega⟩
set_option maxRecDepth 10000 in
set_option maxHeartbeats 4000000 in
theorem specFtf_c (n : Int) (os : List (Int × List Int)) (k : Int) (G : List (List Int)) (t : List Int) (L : List Int) (o : Bool) (hF : FtIs n os k G t L o) (hol : os.length ≤ 4611686018427387904) (ho : OpsLen os) (hl : G.length ≤ 4398046511104) (hr : ∀ t ∈ G, t.length ≤ 4611686018427387904) (htl : t.length ≤ 4398046511104) :
    Spec Try.prog 6 [vagg [vint n, vsl 2 (fun y : Int × (List Int) => [vint y.1, vsl 1 (fun x : Int => [vint x]) y.2]) os], vint k, vsl 1 (fun t : List Int => [vsl 1 (fun x : Int => [vint x]) t]) G, vsl 1 (fun x : Int => [vint x]) t] [] (FtRes L o) := by
  have hgen := l8Gens_c n os k G hol ho hl hr
  cases hgs : gsOk n os k G with
  | false =>
    rw [hgs] at hgen
    obtain ⟨rfl, rfl⟩ := hF.uniq (.inl ⟨by rw [ftB, hgs]; rfl, rfl, rfl⟩)
    refine Spec.of_run2 (n := 67) Try.func6 rfl Try.results6 Try.ntmps6 rfl ?_
    repeat' (first | (with_reducible first | refine RL.done ?_ | refine RL.app0 ?_) | (with_reducible refine RL.wanted ?_ ?_; exact rfl) | ((with_reducible show RH _ _ _ ⟨some 4, .box _ _, _, _, _, _⟩ _ _ _ _); (refine RH.boxAgg rfl rfl ?_; rintro _ _ ⟨b4, rfl, rfl⟩)) | ((with_reducible show RH _ _ _ ⟨some 33, .buildSlice _ _ _, _, _, _, _⟩ _ _ _ _); refine RH.eff rfl rfl (EOpS.e (EOpS.slit (fun x : Int => [vint x]) _ (fun _ _ => rfl) (by repeat (first | exact Elts.nil | (apply Elts.cons; exact rfl; exact CellsOf.one))) rfl rfl)) ?_; rintro _ _ ⟨b33, rfl, rfl⟩) | ((with_reducible show RH _ _ _ ⟨_, .call ⟨.value (.func 20), _, _⟩, _, _, _, _⟩ _ _ _ _); refine RH.cP Try.call20 ?_; refine ⟨_, hgen, ?_⟩; rintro _ _ ⟨rfl, rfl⟩) | ((with_reducible show RH _ _ _ _ _ _ _ _); refine RH.val (hK := ?_)) | (with_reducible show RL _ _ _ (_ :: _) _ _ _; refine RL.guardNoS rfl rfl rfl rfl rfl rfl ?_) | (with_reducible first | refine Run.seq ?_ | refine Run.region ?_ | refine Run.ret ?_) | (with_reducible show Run _ _ (.cond _ _ _) _ _ _; refine Run.condT rfl ?_) | (with_reducible first | refine seqN (K := Run _ _ _ _) ?_ | refine seqR ?_))
    all_goals first
      | (exfalso; simp_all; done)
      | (refine ⟨eA, _, [hsl tInt (vsv (some ⟨b33, 0, none⟩, 0, 0)) []], resA, ?_, ?_⟩
         · exact (SEnt.packNil tInt rfl).trans (SEnt.ch (.cons .head rfl .nil))
         · exact ⟨_, rfl, rfl⟩)
  | true =>
    rw [hgs] at hgen
    obtain ⟨ha, hk, h20, ht⟩ := gsOk_at hgs
    have hn := algB_at ha
    have hmost := mostV_le os
    obtain ⟨k2, rfl⟩ : ∃ k2 : Nat, k = k2 := ⟨k.toNat, by omega⟩
    rw [Int.toNat_natCast] at ht
    have htup := tupB_iff.1 ht
    cases hg : ftB n os k2 G t with
    | false =>
      obtain ⟨rfl, rfl⟩ := hF.uniq (.inl ⟨hg, rfl, rfl⟩)
      rw [ftB, hgs] at hg
      refine Spec.of_run2 (n := 67) Try.func6 rfl Try.results6 Try.ntmps6 rfl ?_
      repeat' (first | (with_reducible first | refine RL.done ?_ | refine RL.app0 ?_) | (with_reducible refine RL.wanted ?_ ?_; exact rfl) | ((with_reducible show RH _ _ _ ⟨some 4, .box _ _, _, _, _, _⟩ _ _ _ _); (refine RH.boxAgg rfl rfl ?_; rintro _ _ ⟨b4, rfl, rfl⟩)) | ((with_reducible show RH _ _ _ ⟨some 33, .buildSlice _ _ _, _, _, _, _⟩ _ _ _ _); refine RH.eff rfl rfl (EOpS.e (EOpS.slit (fun x : Int => [vint x]) _ (fun _ _ => rfl) (by repeat (first | exact Elts.nil | (apply Elts.cons; exact rfl; exact CellsOf.one))) rfl rfl)) ?_; rintro _ _ ⟨b33, rfl, rfl⟩) | ((with_reducible show RH _ _ _ ⟨_, .call ⟨.value (.func 20), _, _⟩, _, _, _, _⟩ _ _ _ _); refine RH.cP Try.call20 ?_; refine ⟨_, hgen, ?_⟩; rintro _ _ ⟨rfl, rfl⟩) | ((with_reducible show RH _ _ _ ⟨_, .call ⟨.value (.func 21), _, _⟩, _, _, _, _⟩ _ _ _ _); refine RH.cP Try.call21 ?_; refine ⟨_, l8Tuple_c n _ t (by omega) (by omega), ?_⟩; rintro _ _ ⟨rfl, rfl⟩) | ((with_reducible show RH _ _ _ _ _ _ _ _); refine RH.val (hK := ?_)) | (with_reducible show RL _ _ _ (_ :: _) _ _ _; first | refine RL.guardYes rfl rfl rfl rfl ?_ | refine RL.guardNoS rfl rfl rfl rfl rfl rfl ?_ | refine RL.splitD rfl rfl rfl (fun h => ?_) (fun h => ?_)) | (with_reducible first | refine Run.seq ?_ | refine Run.region ?_ | refine Run.skip ?_ | refine Run.ret ?_) | (with_reducible show Run _ _ (.cond _ _ _) _ _ _; first | refine Run.condT rfl ?_ | refine Run.condNB rfl (fun h => ?_) (fun h => ?_)) | (with_reducible first | refine seqN (K := Run _ _ _ _) ?_ | refine seqR ?_))
      all_goals first
        | (exfalso; simp_all; done)
        | (exfalso; simp_all; omega)
        | (refine ⟨eA, _, [hsl tInt (vsv (some ⟨b33, 0, none⟩, 0, 0)) []], resA, ?_, ?_⟩
           · exact (SEnt.packNil tInt rfl).trans (SEnt.ch (.cons .head rfl .nil))
           · exact ⟨_, rfl, rfl⟩)
    | true =>
      obtain ⟨_, h6, htk, hte⟩ := ftB_at hg
      have htk : t.length = k2 := by omega
      refine Spec.of_run2 (n := 67) Try.func6 rfl Try.results6 Try.ntmps6 rfl ?_
      repeat' (first | (with_reducible first | refine RL.done ?_ | refine RL.app0 ?_ | refine RL.app1 ?_) | (with_reducible refine RL.wanted ?_ ?_; exact rfl) | ((with_reducible show RH _ _ _ ⟨some 61, .load 26 _, _, _, _, _⟩ _ _ _ _); refine RH.value rfl rfl (VOp.loadNlV (xs := O) rfl (by with_reducible repeat (first | exact Has.head | apply Has.tail)) (by omega)) ?_) | ((with_reducible show RH _ _ _ ⟨some 4, .box _ _, _, _, _, _⟩ _ _ _ _); (refine RH.boxAgg rfl rfl ?_; rintro _ _ ⟨b4, rfl, rfl⟩)) | ((with_reducible show RH _ _ _ ⟨some 33, .buildSlice _ _ _, _, _, _, _⟩ _ _ _ _); refine RH.eff rfl rfl (EOpS.e (EOpS.slit (fun x : Int => [vint x]) _ (fun _ _ => rfl) (by repeat (first | exact Elts.nil | (apply Elts.cons; exact rfl; exact CellsOf.one))) rfl rfl)) ?_; rintro _ _ ⟨b33, rfl, rfl⟩) | ((with_reducible show RH _ _ _ ⟨some 53, .buildSlice _ _ _, _, _, _, _⟩ _ _ _ _); refine RH.eff rfl rfl (EOpS.e (EOpS.slit (fun x : Int => [vint x]) _ (fun _ _ => rfl) (by repeat (first | exact Elts.nil | (apply Elts.cons; exact rfl; exact CellsOf.one))) rfl rfl)) ?_; rintro _ _ ⟨b53, rfl, rfl⟩) | ((with_reducible show RH _ _ _ ⟨_, .call ⟨.value (.func 20), _, _⟩, _, _, _, _⟩ _ _ _ _); refine RH.cP Try.call20 ?_; refine ⟨_, hgen, ?_⟩; rintro _ _ ⟨rfl, rfl⟩) | ((with_reducible show RH _ _ _ ⟨_, .call ⟨.value (.func 21), _, _⟩, _, _, _, _⟩ _ _ _ _); refine RH.cP Try.call21 ?_; refine ⟨_, l8Tuple_c n _ t (by omega) (by omega), ?_⟩; rintro _ _ ⟨rfl, rfl⟩) | ((with_reducible show RH _ _ _ ⟨_, .call ⟨.value (.func 22), _, _⟩, _, _, _, _⟩ _ _ _ _); refine RH.cP Try.call22 ?_; refine ⟨_, l8CloseX_c n os k2 G ha (by omega) htup (by omega), ?_⟩; rintro _ _ ⟨X, rfl, rfl, hX, hXl⟩) | ((with_reducible show RH _ _ _ ⟨_, .call ⟨.value (.func 23), _, _⟩, _, _, _, _⟩ _ _ _ _); refine RH.cP Try.call23 ?_; refine ⟨_, l8Find_c X t (by omega) (by omega) (cls_tl ha htup (by omega) htk hX) (str_sorted hX.1 (cls_k ha htup (by omega) hX)), ?_⟩; rintro _ _ ⟨rfl, rfl⟩) | ((with_reducible show RH _ _ _ ⟨_, .call ⟨.value (.func 24), _, _⟩, _, _, _, _⟩ _ _ _ _); refine RH.cP Try.call24 ?_; refine ⟨_, l8TermsX_c n os k2 G X t ha (by omega) htup (by omega) hX.1 (fun u => ⟨hX.2.1 u, hX.2.2 (by omega) u⟩) (by omega) (place_lt (str_sorted hX.1 (cls_k ha htup (by omega) hX)) (show t ∈ X by assumption)), ?_⟩; rintro _ _ ⟨s58, O, rfl, rfl, hO, hbest, hpO⟩) | ((with_reducible show RH _ _ _ ⟨_, .call ⟨.value (.func 25), _, _⟩, _, _, _, _⟩ _ _ _ _); refine RH.cP Try.call25 ?_; refine ⟨_, l1Own_c _ (ft_len (str_nodup hX.1) hO hbest (place_lt (str_sorted hX.1 (cls_k ha htup (by omega) hX)) (show t ∈ X by assumption))), ?_⟩; rintro _ _ ⟨s63, rfl, rfl⟩) | ((with_reducible show RH _ _ _ _ _ _ _ _); refine RH.val (hK := ?_)) | (with_reducible show RL _ _ _ (_ :: _) _ _ _; first | refine RL.guardYes rfl rfl rfl rfl ?_ | refine RL.guardNoS rfl rfl rfl rfl rfl rfl ?_ | refine RL.splitD rfl rfl rfl (fun h => ?_) (fun h => ?_) | refine RL.splitND rfl rfl rfl (fun h => ?_) (fun h => ?_)) | (with_reducible first | refine Run.seq ?_ | refine Run.region ?_ | refine Run.skip ?_ | refine Run.ret ?_) | (with_reducible show Run _ _ (.cond _ _ _) _ _ _; first | refine Run.condT rfl ?_ | refine Run.condND rfl (fun h => ?_) (fun h => ?_) | refine Run.condNB rfl (fun h => ?_) (fun h => ?_)) | (with_reducible first | refine seqN (K := Run _ _ _ _) ?_ | refine seqR ?_))
      all_goals first
        | (exfalso; omega)
        | (exfalso; simp_all; done)
        | (have hno : ¬ X.length ≤ mostV os := by omega
           obtain ⟨rfl, rfl⟩ := hF.uniq (.inr (.inl ⟨hg, .inl (by rw [Int.toNat_natCast]; exact ⟨X, str_nodup hX.1, hX.2.1, by omega⟩), rfl, rfl⟩))
           refine ⟨eA, _, [hsl tInt (vsv (some ⟨b53, 0, none⟩, 0, 0)) []], resA, ?_, ?_⟩
           · exact (SEnt.packNil tInt rfl).trans (SEnt.ch (.cons .head rfl .nil))
           · exact ⟨_, rfl, rfl⟩)
        | (have hle : X.length ≤ mostV os := by omega
           have hno : ¬ t ∈ X := by assumption
           obtain ⟨rfl, rfl⟩ := hF.uniq (.inr (.inl ⟨hg, .inr (by rw [Int.toNat_natCast]; exact fun h => hno (hX.2.2 hle t h)), rfl, rfl⟩))
           refine ⟨eA, _, [hsl tInt (vsv (some ⟨b53, 0, none⟩, 0, 0)) []], resA, ?_, ?_⟩
           · exact (SEnt.packNil tInt rfl).trans (SEnt.ch (.cons .head rfl .nil))
           · exact ⟨_, rfl, rfl⟩)
        | (have hle : X.length ≤ mostV os := by omega
           have hin : t ∈ X := by assumption
           obtain ⟨hp, he⟩ := place_in (str_sorted hX.1 (cls_k ha htup (by omega) hX)) hin
           have hnd := str_nodup hX.1
           have e : bO X O t = O[placeOf X t]'(by omega) := by
             have h1 := bO_at (L := X) (out := O) hnd hp
             rw [he] at h1
             rw [h1, List.getD_eq_getElem?_getD, List.getElem?_eq_getElem (by omega)]; rfl
           have hall : ∀ u, u ∈ X ↔ Clo n os k2 G u := fun u => ⟨hX.2.1 u, hX.2.2 hle u⟩
           obtain ⟨rfl, rfl⟩ := hF.uniq (.inr (.inr ⟨hg, X, bO X O, by rw [Int.toNat_natCast]; exact hall, by rw [Int.toNat_natCast]; exact ⟨hnd, hall, hle⟩, hin, by rw [Int.toNat_natCast]; exact hbest, rfl, rfl⟩))
           rw [e]
           refine ⟨eA, _, [hsl tInt (vsv s63) (O[placeOf X t]'(by omega))], resA, ?_, ?_⟩
           · exact SEnt.ch chA
           · exact ⟨s63, by rw [decide_eq_decide.2 (show (0 : Int) < (O[placeOf X t]'(by omega)).length ↔ O[placeOf X t]'(by omega) ≠ [] from ⟨fun h h2 => by rw [h2] at h; exact absurd h (by decide), fun h => by have := List.length_pos_iff.2 h; omega⟩)]; rfl, rfl⟩)
end Go.Proofs.Ytemfpennomelaaa
