/- A relation with an element fixed at a place: impl.without, spec.FixPlace, impl.FixPlace: the same answer. Proved for this program; conditions: lengths below 2^42. -/
import Derived.Test.YtiifdhdhjioefaaProj
namespace Go.Proofs.Ytiifdhdhjioefaa
open Go Go.Proofs
set_option linter.unusedVariables false
set_option maxRecDepth 10000 in
theorem clone_x (p : List Int) (hp : p.length ≤ 4398046511104) :
    Spec Try.prog 77 [vsl 1 (fun x : Int => [vint x]) p] [] (fun r S' => ∃ b c : Nat, r = vsb b p.length c ∧ S' = [harr b 1 (fun x : Int => [vint x]) p (c * 1)]) := by
  refine Spec.of_run2 (n := 6) Try.func77 rfl Try.results77 Try.ntmps77 rfl ?_
  repeat' (first | (with_reducible refine RL.done ?_) | (with_reducible refine RL.wanted ?_ ?_; exact rfl) | ((with_reducible show RH _ _ _ ⟨some 3, .buildSlice _ _ _, _, _, _, _⟩ _ _ _ _); refine RH.eff rfl rfl (EOpS.e (EOpS.slit (fun x : Int => [vint x]) _ (fun _ _ => rfl) (by repeat (first | exact Elts.nil | (apply Elts.cons; exact rfl; exact CellsOf.one))) rfl rfl)) ?_; rintro _ _ ⟨b3, rfl, rfl⟩) | ((with_reducible show RH _ _ _ ⟨_, .call ⟨.builtin .append, _, _⟩, _, _, _, _⟩ _ _ _ _); refine RH.appV rfl rfl rfl (by with_reducible repeat (first | exact Plc.head | apply Plc.tail)) rfl (by decide) (by first | omega | (simp; omega)) (by first | omega | (simp; omega)) ?_; rintro _ _ ⟨b9, c9, rfl, rfl⟩) | ((with_reducible show RH _ _ _ _ _ _ _ _); refine RH.val (hK := ?_)) | (with_reducible first | refine Run.seq ?_ | refine Run.region ?_ | refine Run.ret ?_) | (with_reducible refine seqN (K := Run _ _ _ _) ?_))
  refine ⟨eA, _, [harr b9 1 (fun x : Int => [vint x]) p (c9 * 1)], resA, ?_, ?_⟩
  · exact SEnt.ch (.cons .head (by rw [List.nil_append]) .nil)
  · exact ⟨b9, c9, by (try dsimp only); rw [List.length_nil, Nat.zero_add]; rfl, rfl⟩
def wo (p : Nat) (t : List Int) : List Int := t.take p ++ t.drop (p + 1)
theorem wo_len {p : Nat} {t : List Int} (h : p < t.length) : (wo p t).length = t.length - 1 := by simp [wo]; omega
set_option maxRecDepth 10000 in
theorem without_c (t : List Int) (q : Nat) (ht : t.length ≤ 1048576) (hq : q < t.length) :
    Spec Try.prog 84 [vsl 1 (fun x : Int => [vint x]) t, vint (q : Int)] [] (fun r S' => ∃ s : Sv, r = vlit (vsv s) ∧ S' = [hsl tInt (vsv s) (wo q t)]) := by
  have e0 : ((q : Int)).toNat = q := by omega
  have e1 : ((q : Int) + 1).toNat = q + 1 := by omega
  refine Spec.of_run2 (n := 14) Try.func84 rfl Try.results84 Try.ntmps84 rfl ?_
  repeat' (first | (with_reducible first | refine RL.done ?_ | refine RD.app1 ?_) | (with_reducible refine RL.wanted ?_ ?_; exact rfl) | ((with_reducible show Run _ _ (.region 1 _ true) _ _ _); refine Run.regionD (fun i => i == 8) rfl ?_; change RD _ _ _ _ _ _ 10 (dm 10 0) _ _) | ((with_reducible show RD _ _ 1 _ _ _ _ _ _ _); first | ((with_reducible show RD _ _ _ _ _ _ _ (dm 10 0) _ _); refine RD.tk 0 (dm 10 780) (dm 10 1) (hK := ?_)) | ((with_reducible show RD _ _ _ _ _ _ _ (dm 10 1) _ _); refine RD.tk 1 (dm 10 780) (dm 10 3) (hK := ?_)) | ((with_reducible show RD _ _ _ _ _ _ _ (dm 10 3) _ _); refine RD.tk 2 (dm 10 776) (dm 10 7) (hK := ?_)) | ((with_reducible show RD _ _ _ _ _ _ _ (dm 10 7) _ _); refine RD.tk 4 (dm 10 896) (dm 10 23) (hK := ?_)) | ((with_reducible show RD _ _ _ _ _ _ _ (dm 10 23) _ _); refine RD.tk 5 (dm 10 960) (dm 10 55) (hK := ?_)) | ((with_reducible show RD _ _ _ _ _ _ _ (dm 10 55) _ _); refine RD.tk 6 (dm 10 896) (dm 10 119) (hK := ?_)) | ((with_reducible show RD _ _ _ _ _ _ _ (dm 10 119) _ _); refine RD.tk 7 (dm 10 768) (dm 10 247) (hK := ?_)) | ((with_reducible show RD _ _ _ _ _ _ _ (dm 10 247) _ _); refine RD.a1 3 ?_) | ((with_reducible show RD _ _ _ _ _ _ _ (dm 10 255) _ _); refine RD.a1 8 ?_) | ((with_reducible show RD _ _ _ _ _ _ _ (dm 10 511) _ _); refine RD.tk 9 (dm 10 0) (dm 10 1023) (hK := ?_)) | ((with_reducible show RD _ _ _ _ _ _ 0 _ _ _); refine RD.done (by kernel_rfl) ?_)) | ((with_reducible show RO _ _ 1 _ _ _ _ _ _ _ _); first | ((with_reducible show RO _ _ _ _ _ _ _ (dm 10 247) 3 _ _); (refine RO.cP (dm 10 255) Try.call77 ?_; refine ⟨_, clone_x _ (by simp; omega), ?_⟩; rintro _ _ ⟨b8, c8, rfl, rfl⟩)) | ((with_reducible show RO _ _ _ _ _ _ _ (dm 10 255) 8 _ _); (refine RO.h (dm 10 511) ?_; show RH _ _ _ ⟨_, _, _, _, _, _⟩ _ _ _ _))) | ((with_reducible show RH _ _ _ ⟨_, .call ⟨.builtin .append, _, _⟩, _, _, _, _⟩ _ _ _ _); refine RH.appV rfl rfl rfl (by with_reducible repeat (first | exact Plc.head | apply Plc.tail)) rfl (by decide) (by first | omega | (simp; omega)) (by first | omega | (simp; omega)) ?_; rintro _ _ ⟨b9, c9, rfl, rfl⟩) | ((with_reducible show RH _ _ _ _ _ _ _ _); refine RH.val (hK := ?_)) | (with_reducible first | refine Run.seq ?_ | refine Run.region ?_ | refine Run.ret ?_) | (with_reducible refine seqN (K := Run _ _ _ _) ?_))
  all_goals
    refine ⟨eA, _, [hsl tInt (vsv (some ⟨b9, 0, none⟩, (List.take ((q : Int)).toNat t).length + (List.drop ((q : Int) + 1).toNat t).length, c9)) (wo q t)], resA, ?_, ?_⟩
    · refine (SEnt.ch (T := [harr b9 1 (fun x : Int => [vint x]) (wo q t) (c9 * 1)]) (.cons .head (by rw [wo, e0, e1]) .nil)).trans (SEnt.pack (rv := fun x : Int => .int .i64 x) (fun _ => rfl) ?_)
      rw [wo, e0, e1, List.length_append]
    · exact ⟨(some ⟨b9, 0, none⟩, _, c9), rfl, rfl⟩
theorem cmp_wo : ∀ (p : Nat) (a b : List Int), p < a.length → p < b.length → a.getD p 0 = b.getD p 0 → cmp (wo p a) (wo p b) = cmp a b
  | 0, x :: a, y :: b, _, _, e => by
    have e : x = y := e
    subst e
    simp [wo, cmp]
  | p + 1, x :: a, y :: b, h1, h2, e => by
    have ih := cmp_wo p a b (by simpa using h1) (by simpa using h2) e
    have e1 : wo (p + 1) (x :: a) = x :: wo p a := rfl
    have e2 : wo (p + 1) (y :: b) = y :: wo p b := rfl
    rw [e1, e2, cmp, cmp, ih]
  | p, [], b, h, _, _ => by simp at h
  | p, x :: a, [], _, h, _ => by simp at h
def fixL (p : Nat) (x : Int) (xs : List (List Int)) : List (List Int) := (xs.filter fun t => decide (t.getD p 0 = x)).map (wo p)
theorem fixL_yes {p : Nat} {x : Int} {xs : List (List Int)} {m : Nat} (h : m < xs.length) (e : (xs[m]).getD p 0 = x) : fixL p x (xs.take (m + 1)) = fixL p x (xs.take m) ++ [wo p xs[m]] := by
  rw [fixL, List.take_add_one, List.getElem?_eq_getElem h, List.filter_append, Option.toList_some, List.filter_cons_of_pos (by simpa using e), List.map_append]; rfl
theorem fixL_no {p : Nat} {x : Int} {xs : List (List Int)} {m : Nat} (h : m < xs.length) (e : ¬ (xs[m]).getD p 0 = x) : fixL p x (xs.take (m + 1)) = fixL p x (xs.take m) := by
  rw [fixL, List.take_add_one, List.getElem?_eq_getElem h, List.filter_append, Option.toList_some, List.filter_cons_of_neg (by simpa using e), List.filter_nil, List.append_nil]; rfl
theorem fixL_le (p : Nat) (x : Int) (xs : List (List Int)) : (fixL p x xs).length ≤ xs.length := by
  rw [fixL, List.length_map]; exact List.length_filter_le _ _
theorem fixL_len {p k : Nat} {x : Int} {xs : List (List Int)} (hp : p < k + 1) (h : ∀ t ∈ xs, t.length = k + 1) : ∀ u ∈ fixL p x xs, u.length = k := fun u hu => by
  obtain ⟨t, ht, rfl⟩ := List.mem_map.1 hu
  have := h t (List.mem_filter.1 ht).1
  rw [wo_len (by omega)]; omega
theorem sorted_str {xs : List (List Int)} {k : Nat} (h : Sorted xs) (hk : ∀ t ∈ xs, t.length = k) : Str xs := by
  rw [Str, List.pairwise_iff_getElem]
  intro i j hi hj hij
  exact (less_cmp (by rw [hk _ (List.getElem_mem _), hk _ (List.getElem_mem _)])).1 (h i j hij hj)
theorem putF_id {k : Nat} {xs : List (List Int)} (h : Str xs) (hk : ∀ t ∈ xs, t.length = k) : putF xs = xs :=
  str_ext (putF_str hk).1 h (putF_str hk).2
theorem fixL_put {p k : Nat} {x : Int} {xs : List (List Int)} (hp : p < k + 1) (hs : Sorted xs) (h : ∀ t ∈ xs, t.length = k + 1) : putF (fixL p x xs) = fixL p x xs := by
  refine putF_id ?_ (fixL_len hp h)
  have h1 := sorted_str hs h
  rw [fixL, Str, List.pairwise_map]
  refine List.Pairwise.imp_of_mem ?_ (h1.filter _)
  intro a b ha hb hab
  obtain ⟨ha1, ha2⟩ := List.mem_filter.1 ha
  obtain ⟨hb1, hb2⟩ := List.mem_filter.1 hb
  simp only [decide_eq_true_eq] at ha2 hb2
  rw [cmp_wo p a b (by rw [h a ha1]; exact hp) (by rw [h b hb1]; exact hp) (by rw [ha2, hb2])]
  exact hab
def fixOk (n a : Int) (xs : List (List Int)) (p x : Int) : Bool := relOk n a xs && decide (2 ≤ a) && decide (0 ≤ p ∧ p < a) && decide (0 ≤ x ∧ x < n)
theorem fixOk_at {n a : Int} {xs : List (List Int)} {p x : Int} (h : fixOk n a xs p x = true) : relOk n a xs = true ∧ 2 ≤ a ∧ (0 ≤ p ∧ p < a) ∧ (0 ≤ x ∧ x < n) := by
  simp only [fixOk, Bool.and_eq_true, decide_eq_true_eq] at h; exact ⟨h.1.1.1, h.1.1.2, h.1.2, h.2⟩
set_option maxRecDepth 10000 in
theorem l1Own_x (p : List Int) (hp : p.length ≤ 4398046511104) :
    Spec Try.prog 79 [vsl 1 (fun x : Int => [vint x]) p] [] (fun r S' => ∃ b c : Nat, r = vsb b p.length c ∧ S' = [harr b 1 (fun x : Int => [vint x]) p (c * 1)]) := by
  refine Spec.of_run2 (n := 6) Try.func79 rfl Try.results79 Try.ntmps79 rfl ?_
  repeat' (first | (with_reducible refine RL.done ?_) | (with_reducible refine RL.wanted ?_ ?_; exact rfl) | ((with_reducible show RH _ _ _ ⟨some 3, .buildSlice _ _ _, _, _, _, _⟩ _ _ _ _); refine RH.eff rfl rfl (EOpS.e (EOpS.slit (fun x : Int => [vint x]) _ (fun _ _ => rfl) (by repeat (first | exact Elts.nil | (apply Elts.cons; exact rfl; exact CellsOf.one))) rfl rfl)) ?_; rintro _ _ ⟨b3, rfl, rfl⟩) | ((with_reducible show RH _ _ _ ⟨_, .call ⟨.builtin .append, _, _⟩, _, _, _, _⟩ _ _ _ _); refine RH.appV rfl rfl rfl (by with_reducible repeat (first | exact Plc.head | apply Plc.tail)) rfl (by decide) (by first | omega | (simp; omega)) (by first | omega | (simp; omega)) ?_; rintro _ _ ⟨b9, c9, rfl, rfl⟩) | ((with_reducible show RH _ _ _ _ _ _ _ _); refine RH.val (hK := ?_)) | (with_reducible first | refine Run.seq ?_ | refine Run.region ?_ | refine Run.ret ?_) | (with_reducible refine seqN (K := Run _ _ _ _) ?_))
  refine ⟨eA, _, [harr b9 1 (fun x : Int => [vint x]) p (c9 * 1)], resA, ?_, ?_⟩
  · exact SEnt.ch (.cons .head (by rw [List.nil_append]) .nil)
  · exact ⟨b9, c9, by (try dsimp only); rw [List.length_nil, Nat.zero_add]; rfl, rfl⟩
set_option maxRecDepth 10000 in
set_option maxHeartbeats 2000000 in
theorem specFix_c (n a p x : Int) (xs : List (List Int)) (hn : InR n) (hx : InR x) (hl : xs.length ≤ 4398046511104) (hr : ∀ t ∈ xs, t.length ≤ 4611686018427387904) :
    Spec Try.prog 20 [vint n, vagg [vint a, vsl 1 (fun t : List Int => [vsl 1 (fun x : Int => [vint x]) t]) xs], vint p, vint x] [] (RelRes (fixOk n a xs p x) (a - 1) (putF (fixL p.toNat x xs))) := by
  by_cases hg : fixOk n a xs p x = true
  · obtain ⟨h1, ha2, hp, hx⟩ := fixOk_at hg
    have hB := (relOk_rel' h1).2
    have ha := relB_ar hB
    have hlen := relB_len2 hB
    have hmn := rel_many h1
    have hn8 := (relOk_rel' h1).1
    obtain ⟨k, rfl⟩ : ∃ k : Nat, a = ((k + 1 : Nat) : Int) := ⟨a.toNat - 1, by omega⟩
    obtain ⟨q, rfl⟩ : ∃ q : Nat, p = q := ⟨p.toNat, by omega⟩
    have hlk : ∀ t ∈ xs, t.length = k + 1 := fun t ht => by have := hlen t ht; omega
    have e0 : ((q : Int)).toNat = q := by omega
    have e1 : ((q : Int) + 1).toNat = q + 1 := by omega
    rw [e0, fixL_put (by omega) (relB_sorted hB) hlk]
    refine Spec.of_run2 (n := 76) Try.func20 rfl Try.results20 Try.ntmps20 rfl ?_
    repeat' (first | (with_reducible first | refine RL.done ?_ | refine RL.app0 ?_) | (with_reducible refine RL.wanted ?_ ?_; exact rfl) | ((with_reducible show RH _ _ _ ⟨some 5, .box _ _, _, _, _, _⟩ _ _ _ _); (refine RH.boxAgg rfl rfl ?_; rintro _ _ ⟨b5, rfl, rfl⟩)) | ((with_reducible show RH _ _ _ ⟨some 8, .alloc _, _, _, _, _⟩ _ _ _ _); refine RH.alloc rfl ?_; rintro _ _ ⟨b8, rfl, rfl⟩) | ((with_reducible show RH _ _ _ ⟨some 41, .buildSlice _ _ _, _, _, _, _⟩ _ _ _ _); (refine RH.eff rfl rfl (EOpS.e (EOpS.slitV (by ((repeat (first | exact Elts.nil | apply Elts.one1 rfl | apply Elts.agg2 rfl)); done)) (by simp) rfl rfl)) ?_; rintro _ _ ⟨b41, rfl, rfl⟩)) | ((with_reducible show RH _ _ _ ⟨some 10, .alloc _, _, _, _, _⟩ _ _ _ _); refine RH.alloc rfl ?_; rintro _ _ ⟨b10, rfl, rfl⟩) | ((with_reducible show RH _ _ _ ⟨_, .call ⟨.value (.func 70), _, _⟩, _, _, _, _⟩ _ _ _ _); refine RH.cP Try.call70 ?_; refine ⟨_, l13Takes_c _ _ _ (by omega) (by assumption), ?_⟩; rintro _ _ ⟨rfl, rfl⟩) | ((with_reducible show RH _ _ _ ⟨_, .call ⟨.value (.func 85), _, _⟩, _, _, _, _⟩ _ _ _ _); refine RH.cP Try.call85 ?_; refine ⟨_, l1In_c _ _ _, ?_⟩; rintro _ _ ⟨rfl, rfl⟩) | ((with_reducible show RH _ _ _ _ _ _ _ _); first | refine RH.val (hK := ?_) | refine RH.upd (hK := ?_)) | (with_reducible show RL _ _ _ (_ :: _) _ _ _; first | refine RL.guardYes rfl rfl rfl rfl ?_ | refine RL.guardNoS rfl rfl rfl rfl rfl rfl ?_ | refine RL.splitD rfl rfl rfl (fun h => ?_) (fun h => ?_) | refine RL.splitND rfl rfl rfl (fun h => ?_) (fun h => ?_) | refine RL.splitNB rfl rfl rfl (fun h => ?_) (fun h => ?_)) | (with_reducible first | refine Run.seq ?_ | refine Run.region ?_ | refine Run.block ?_ | refine Run.skip ?_ | refine Run.ret ?_) | (with_reducible show Run _ _ (.cond _ _ _) _ _ _; first | refine Run.condT rfl ?_ | refine Run.condND rfl (fun h => ?_) (fun h => ?_)) | (with_reducible first | refine seqN (K := Run _ _ _ _) ?_ | refine seqR ?_))
    all_goals first
      | (exfalso; omega)
      | (exfalso; simp_all; done)
      | (exfalso; simp_all; omega)
      | skip
    refine Run.sent (T := [hsl (tS tInt) (vsv (some ⟨b41, 0, none⟩, 0, 0)) [], hcells b10 [vint (((k + 1 : Nat) : Int) - 1), vsb b41 0 0], hcells b8 [vint 0, vlit (.slice none 0 0)], hcells b5 [vint ((k + 1 : Nat) : Int), vsl 1 (fun t : List Int => [vsl 1 (fun x : Int => [vint x]) t]) xs]])
      ((SEnt.pick (.cons (.tail .head) .nil)).trans (SEnt.packNil (tS tInt) rfl)) ?_
    refine Run.loop (α := Nat × Sv) (fun z => [(2, vint (q : Int)), (3, vint x), (5, vptr b5 0), (8, vptr b8 0), (10, vptr b10 0), (11, vint (z.1 : Int))])
      (fun z => [hsl (tS tInt) (vsv z.2) (fixL q x (xs.take z.1)), hcells b10 [vint (((k + 1 : Nat) : Int) - 1), vlit (vsv z.2)], hcells b8 [vint 0, vlit (.slice none 0 0)], hcells b5 [vint ((k + 1 : Nat) : Int), vsl 1 (fun t : List Int => [vsl 1 (fun x : Int => [vint x]) t]) xs]])
      (fun z => z.1 ≤ xs.length) (fun z => xs.length - z.1) (0, (some ⟨b41, 0, none⟩, 0, 0)) (Nat.zero_le _) (Ent.of slA .refl) ?_
    rintro ⟨m, s⟩ hm
    dsimp only at hm ⊢
    have hle := fixL_le q x (xs.take m)
    have hle2 : (xs.take m).length ≤ 512 := by rw [List.length_take]; omega
    rcases Nat.lt_or_eq_of_le hm with h9 | h9
    · have hxk : xs[m].length = k + 1 := hlk _ (List.getElem_mem _)
      have e2 : (xs[m]).getD q 0 = (xs[m])[((q : Int)).toNat]'(by omega) := by
        rw [List.getD_eq_getElem?_getD, List.getElem?_eq_getElem (by omega)]; rfl
      have hwo : List.take ((q : Int)).toNat xs[m] ++ List.drop ((q : Int) + 1).toNat xs[m] = wo q xs[m] := by rw [e0, e1]; rfl
      repeat' (first | (with_reducible first | refine RL.done ?_ | refine RD.app1 ?_) | (with_reducible refine RL.wanted ?_ ?_; exact rfl) | ((with_reducible show Run _ _ (.region 9 _ true) _ _ _); refine Run.regionD (fun i => i == 10 || i == 12 || i == 14) rfl ?_; change RD _ _ _ _ _ _ 15 (dm 15 0) _ _) | ((with_reducible show RD _ _ 9 _ _ _ _ _ _ _); first | ((with_reducible show RD _ _ _ _ _ _ _ (dm 15 0) _ _); refine RD.tk 2 (dm 15 31792) (dm 15 4) (hK := ?_)) | ((with_reducible show RD _ _ _ _ _ _ _ (dm 15 4) _ _); refine RD.tk 3 (dm 15 31792) (dm 15 12) (hK := ?_)) | ((with_reducible show RD _ _ _ _ _ _ _ (dm 15 12) _ _); refine RD.tk 4 (dm 15 31776) (dm 15 28) (hK := ?_)) | ((with_reducible show RD _ _ _ _ _ _ _ (dm 15 28) _ _); refine RD.tk 6 (dm 15 32256) (dm 15 92) (hK := ?_)) | ((with_reducible show RD _ _ _ _ _ _ _ (dm 15 92) _ _); refine RD.tk 7 (dm 15 32512) (dm 15 220) (hK := ?_)) | ((with_reducible show RD _ _ _ _ _ _ _ (dm 15 220) _ _); refine RD.tk 8 (dm 15 32256) (dm 15 476) (hK := ?_)) | ((with_reducible show RD _ _ _ _ _ _ _ (dm 15 476) _ _); refine RD.tk 9 (dm 15 31744) (dm 15 988) (hK := ?_)) | ((with_reducible show RD _ _ _ _ _ _ _ (dm 15 988) _ _); refine RD.a2 0 5 ?_ ?_) | ((with_reducible show RD _ _ _ _ _ _ _ (dm 15 989) _ _); refine RD.a2 1 5 ?_ ?_) | ((with_reducible show RD _ _ _ _ _ _ _ (dm 15 1020) _ _); refine RD.a2 0 10 ?_ ?_) | ((with_reducible show RD _ _ _ _ _ _ _ (dm 15 991) _ _); refine RD.a1 5 ?_) | ((with_reducible show RD _ _ _ _ _ _ _ (dm 15 1021) _ _); refine RD.a2 1 10 ?_ ?_) | ((with_reducible show RD _ _ _ _ _ _ _ (dm 15 2044) _ _); refine RD.tk 0 (dm 15 28674) (dm 15 2045) (hK := ?_)) | ((with_reducible show RD _ _ _ _ _ _ _ (dm 15 1023) _ _); refine RD.a1 10 ?_) | ((with_reducible show RD _ _ _ _ _ _ _ (dm 15 2045) _ _); refine RD.tk 1 (dm 15 28672) (dm 15 2047) (hK := ?_)) | ((with_reducible show RD _ _ _ _ _ _ _ (dm 15 2047) _ _); refine RD.a1 11 ?_) | ((with_reducible show RD _ _ _ _ _ _ _ (dm 15 4095) _ _); refine RD.a1 12 ?_) | ((with_reducible show RD _ _ _ _ _ _ _ (dm 15 8191) _ _); refine RD.tk 13 (dm 15 16384) (dm 15 16383) (hK := ?_)) | ((with_reducible show RD _ _ _ _ _ _ _ (dm 15 16383) _ _); refine RD.a1 14 ?_) | ((with_reducible show RD _ _ _ _ _ _ 0 _ _ _); refine RD.done (by kernel_rfl) ?_)) | ((with_reducible show RO _ _ 9 _ _ _ _ _ _ _ _); first | ((with_reducible show RO _ _ _ _ _ _ _ (dm 15 988) 0 _ _); refine RO.v (dm 15 989) (hK := ?_)) | ((with_reducible show RO _ _ _ _ _ _ _ (dm 15 988) 5 _ _); (refine RO.cP (dm 15 1020) Try.call79 ?_; refine ⟨_, l1Own_x _ (by simp; omega), ?_⟩; rintro _ _ ⟨b8, c8, rfl, rfl⟩)) | ((with_reducible show RO _ _ _ _ _ _ _ (dm 15 989) 1 _ _); refine RO.v (dm 15 991) (hK := ?_)) | ((with_reducible show RO _ _ _ _ _ _ _ (dm 15 989) 5 _ _); (refine RO.cP (dm 15 1021) Try.call79 ?_; refine ⟨_, l1Own_x _ (by simp; omega), ?_⟩; rintro _ _ ⟨b8, c8, rfl, rfl⟩)) | ((with_reducible show RO _ _ _ _ _ _ _ (dm 15 1020) 0 _ _); refine RO.v (dm 15 1021) (hK := ?_)) | ((with_reducible show RO _ _ _ _ _ _ _ (dm 15 1020) 10 _ _); (refine RO.h (dm 15 2044) ?_; show RH _ _ _ ⟨_, _, _, _, _, _⟩ _ _ _ _)) | ((with_reducible show RO _ _ _ _ _ _ _ (dm 15 991) 5 _ _); (refine RO.cP (dm 15 1023) Try.call79 ?_; refine ⟨_, l1Own_x _ (by simp; omega), ?_⟩; rintro _ _ ⟨b8, c8, rfl, rfl⟩)) | ((with_reducible show RO _ _ _ _ _ _ _ (dm 15 1021) 1 _ _); refine RO.v (dm 15 1023) (hK := ?_)) | ((with_reducible show RO _ _ _ _ _ _ _ (dm 15 1021) 10 _ _); (refine RO.h (dm 15 2045) ?_; show RH _ _ _ ⟨_, _, _, _, _, _⟩ _ _ _ _)) | ((with_reducible show RO _ _ _ _ _ _ _ (dm 15 1023) 10 _ _); (refine RO.h (dm 15 2047) ?_; show RH _ _ _ ⟨_, _, _, _, _, _⟩ _ _ _ _)) | ((with_reducible show RO _ _ _ _ _ _ _ (dm 15 2047) 11 _ _); (refine RO.eS (dm 15 4095) (hv := by show EOpS _ _ _ _ ⟨_, .buildSlice _ _ _, _, _, _, _⟩ _; exact EOpS.slitV (by ((repeat (first | exact Elts.nil | apply Elts.one1 rfl | apply Elts.agg2 rfl)); done)) (by simp) rfl rfl) (h := ?_); rintro _ _ ⟨b72, rfl, rfl⟩)) | ((with_reducible show RO _ _ _ _ _ _ _ (dm 15 4095) 12 _ _); (refine RO.h (dm 15 8191) ?_; show RH _ _ _ ⟨_, _, _, _, _, _⟩ _ _ _ _)) | ((with_reducible show RO _ _ _ _ _ _ _ (dm 15 16383) 14 _ _); (refine RO.h (dm 15 32767) ?_; show RH _ _ _ ⟨_, _, _, _, _, _⟩ _ _ _ _))) | ((with_reducible show RH _ _ _ ⟨_, .call ⟨.builtin .append, _, _⟩, _, _, _, _⟩ _ _ _ _); refine RH.appV rfl rfl rfl (by with_reducible repeat (first | exact Plc.head | apply Plc.tail)) rfl (by decide) (by first | omega | (simp; omega)) (by first | omega | (simp; omega)) ?_; rintro _ _ ⟨b9, c9, rfl, rfl⟩) | ((with_reducible show RH _ _ _ ⟨_, .call ⟨.builtin .append, _, _⟩, _, _, _, _⟩ _ _ _ _); (refine RH.appRI rfl rfl rfl (by repeat (first | exact Pick.nil | (apply Pick.cons; (with_reducible repeat (first | exact Rem.head | apply Rem.tail))))) (by first | exact rfl | (simp; done)) (by first | omega | (simp; omega)) (by first | omega | (simp; omega)) ?_); rintro _ _ ⟨s, rfl, rfl⟩) | ((with_reducible show RH _ _ _ _ _ _ _ _); first | refine RH.val (hK := ?_) | refine RH.upd (hK := ?_)) | (with_reducible first | refine Run.seq ?_ | refine Run.region ?_ | refine Run.block ?_ | refine Run.skip ?_ | refine Run.exit ?_ | refine Run.ret ?_) | (with_reducible show Run _ _ (.cond _ _ _) _ _ _; refine Run.condD rfl (fun h => ?_) (fun h => ?_)) | (with_reducible first | refine seqN (K := Run _ _ _ _) ?_ | refine seqE ?_ | refine blockN ?_ | refine blockE ?_))
      all_goals first
        | (exfalso; omega)
        | (have hd := fixL_yes (p := q) (x := x) h9 (by rw [e2]; assumption)
           rw [← hwo] at hd
           with_reducible refine seqN ?_
           exact ⟨(m + 1, _), by dsimp only; omega, by dsimp only; omega, Ent.of (by dsimp only; exact slA) (by dsimp only; rw [hd]; exact chA)⟩)
        | (have hd := fixL_no (p := q) (x := x) h9 (by rw [e2]; assumption)
           with_reducible refine seqN ?_
           exact ⟨(m + 1, s), by dsimp only; omega, by dsimp only; omega, Ent.of (by dsimp only; exact slA) (by dsimp only; rw [hd]; exact chA)⟩)
    · subst h9
      repeat' (first | (with_reducible refine RL.done ?_) | (with_reducible refine RL.wanted ?_ ?_; exact rfl) | ((with_reducible show RH _ _ _ _ _ _ _ _); first | refine RH.val (hK := ?_) | refine RH.upd (hK := ?_)) | (with_reducible first | refine Run.seq ?_ | refine Run.region ?_ | refine Run.block ?_ | refine Run.skip ?_ | refine Run.exit ?_ | refine Run.ret ?_) | (with_reducible show Run _ _ (.cond _ _ _) _ _ _; refine Run.condD rfl (fun h => ?_) (fun h => ?_)) | (with_reducible first | refine seqN (K := Run _ _ _ _) ?_ | refine seqE ?_ | refine blockN ?_ | refine blockE ?_))
      all_goals first
        | (exfalso; omega)
        | (refine ⟨eA, _, [hsl (tS tInt) (vsv s) (fixL q x xs)], resA, ?_, ?_⟩
           · exact SEnt.ch (.cons .head (by rw [List.take_length]) .nil)
           · exact relRes_yes hg s)
  · refine Spec.of_run2 (n := 76) Try.func20 rfl Try.results20 Try.ntmps20 rfl ?_
    by_cases h1 : relOk n a xs = true
    · have ha := relB_ar (relOk_rel' h1).2
      have hn := (relOk_rel' h1).1
      repeat' (first | (with_reducible first | refine RL.done ?_ | refine RL.app0 ?_) | (with_reducible refine RL.wanted ?_ ?_; exact rfl) | ((with_reducible show RH _ _ _ ⟨some 5, .box _ _, _, _, _, _⟩ _ _ _ _); (refine RH.boxAgg rfl rfl ?_; rintro _ _ ⟨b5, rfl, rfl⟩)) | ((with_reducible show RH _ _ _ ⟨some 8, .alloc _, _, _, _, _⟩ _ _ _ _); refine RH.alloc rfl ?_; rintro _ _ ⟨b8, rfl, rfl⟩) | ((with_reducible show RH _ _ _ ⟨some 41, .buildSlice _ _ _, _, _, _, _⟩ _ _ _ _); (refine RH.eff rfl rfl (EOpS.e (EOpS.slitV (by ((repeat (first | exact Elts.nil | apply Elts.one1 rfl | apply Elts.agg2 rfl)); done)) (by simp) rfl rfl)) ?_; rintro _ _ ⟨b41, rfl, rfl⟩)) | ((with_reducible show RH _ _ _ ⟨some 10, .alloc _, _, _, _, _⟩ _ _ _ _); refine RH.alloc rfl ?_; rintro _ _ ⟨b10, rfl, rfl⟩) | ((with_reducible show RH _ _ _ ⟨_, .call ⟨.value (.func 70), _, _⟩, _, _, _, _⟩ _ _ _ _); refine RH.cP Try.call70 ?_; refine ⟨_, l13Takes_c _ _ _ (by omega) (by assumption), ?_⟩; rintro _ _ ⟨rfl, rfl⟩) | ((with_reducible show RH _ _ _ ⟨_, .call ⟨.value (.func 85), _, _⟩, _, _, _, _⟩ _ _ _ _); refine RH.cP Try.call85 ?_; refine ⟨_, l1In_c _ _ _, ?_⟩; rintro _ _ ⟨rfl, rfl⟩) | ((with_reducible show RH _ _ _ _ _ _ _ _); first | refine RH.val (hK := ?_) | refine RH.upd (hK := ?_)) | (with_reducible show RL _ _ _ (_ :: _) _ _ _; first | refine RL.guardYes rfl rfl rfl rfl ?_ | refine RL.guardNoS rfl rfl rfl rfl rfl rfl ?_ | refine RL.splitD rfl rfl rfl (fun h => ?_) (fun h => ?_) | refine RL.splitND rfl rfl rfl (fun h => ?_) (fun h => ?_) | refine RL.splitNB rfl rfl rfl (fun h => ?_) (fun h => ?_)) | (with_reducible first | refine Run.seq ?_ | refine Run.region ?_ | refine Run.block ?_ | refine Run.skip ?_ | refine Run.ret ?_) | (with_reducible show Run _ _ (.cond _ _ _) _ _ _; first | refine Run.condT rfl ?_ | refine Run.condND rfl (fun h => ?_) (fun h => ?_)) | (with_reducible first | refine seqN (K := Run _ _ _ _) ?_ | refine seqR ?_))
      all_goals first
        | (refine ⟨eA, _, [hsl (tS tInt) (vsv (none, 0, 0)) []], resA, ?_, ?_⟩
           · exact (SEnt.ch .nil).trans (SEnt.nil _ _)
           · exact relRes_no (by simpa using hg))
        | (exfalso; apply hg; simp_all [fixOk]; done)
        | (exfalso; apply hg; simp_all [fixOk]; omega)
    · repeat' (first | (with_reducible first | refine RL.done ?_ | refine RL.app0 ?_) | (with_reducible refine RL.wanted ?_ ?_; exact rfl) | ((with_reducible show RH _ _ _ ⟨some 5, .box _ _, _, _, _, _⟩ _ _ _ _); (refine RH.boxAgg rfl rfl ?_; rintro _ _ ⟨b5, rfl, rfl⟩)) | ((with_reducible show RH _ _ _ ⟨some 8, .alloc _, _, _, _, _⟩ _ _ _ _); refine RH.alloc rfl ?_; rintro _ _ ⟨b8, rfl, rfl⟩) | ((with_reducible show RH _ _ _ ⟨_, .call ⟨.value (.func 70), _, _⟩, _, _, _, _⟩ _ _ _ _); refine RH.cP Try.call70 ?_; refine ⟨_, l13Takes_c _ _ _ (by omega) (by assumption), ?_⟩; rintro _ _ ⟨rfl, rfl⟩) | ((with_reducible show RH _ _ _ _ _ _ _ _); first | refine RH.val (hK := ?_) | refine RH.upd (hK := ?_)) | (with_reducible show RL _ _ _ (_ :: _) _ _ _; first | refine RL.guardYes rfl rfl rfl rfl ?_ | refine RL.guardNoS rfl rfl rfl rfl rfl rfl ?_ | refine RL.splitD rfl rfl rfl (fun h => ?_) (fun h => ?_) | refine RL.splitNB rfl rfl rfl (fun h => ?_) (fun h => ?_)) | (with_reducible first | refine Run.seq ?_ | refine Run.region ?_ | refine Run.ret ?_) | (with_reducible show Run _ _ (.cond _ _ _) _ _ _; refine Run.condT rfl ?_) | (with_reducible first | refine seqN (K := Run _ _ _ _) ?_ | refine seqR ?_))
      all_goals first
        | (refine ⟨eA, _, [hsl (tS tInt) (vsv (none, 0, 0)) []], resA, ?_, ?_⟩
           · exact (SEnt.ch .nil).trans (SEnt.nil _ _)
           · exact relRes_no (by simpa using hg))
        | (exfalso; apply h1; simp_all; done)
set_option maxRecDepth 10000 in
set_option maxHeartbeats 2000000 in
theorem implFix_c (n a p x : Int) (xs : List (List Int)) (hn : InR n) (hx : InR x) (hl : xs.length ≤ 4398046511104) (hr : ∀ t ∈ xs, t.length ≤ 4611686018427387904) :
    Spec Try.prog 19 [vint n, vagg [vint a, vsl 1 (fun t : List Int => [vsl 1 (fun x : Int => [vint x]) t]) xs], vint p, vint x] [] (RelRes (fixOk n a xs p x) (a - 1) (putF (fixL p.toNat x xs))) := by
  by_cases hg : fixOk n a xs p x = true
  · obtain ⟨h1, ha2, hp, hx⟩ := fixOk_at hg
    have hB := (relOk_rel' h1).2
    have ha := relB_ar hB
    have hlen := relB_len2 hB
    have hmn := rel_many h1
    have hn8 := (relOk_rel' h1).1
    obtain ⟨k, rfl⟩ : ∃ k : Nat, a = ((k + 1 : Nat) : Int) := ⟨a.toNat - 1, by omega⟩
    obtain ⟨q, rfl⟩ : ∃ q : Nat, p = q := ⟨p.toNat, by omega⟩
    have hlk : ∀ t ∈ xs, t.length = k + 1 := fun t ht => by have := hlen t ht; omega
    have e0 : ((q : Int)).toNat = q := by omega
    have hfl := fixL_le q x xs
    rw [e0]
    refine Spec.of_run2 (n := 68) Try.func19 rfl Try.results19 Try.ntmps19 rfl ?_
    repeat' (first | (with_reducible first | refine RL.done ?_ | refine RL.app0 ?_) | (with_reducible refine RL.wanted ?_ ?_; exact rfl) | ((with_reducible show RH _ _ _ ⟨some 5, .box _ _, _, _, _, _⟩ _ _ _ _); (refine RH.boxAgg rfl rfl ?_; rintro _ _ ⟨b5, rfl, rfl⟩)) | ((with_reducible show RH _ _ _ ⟨some 8, .alloc _, _, _, _, _⟩ _ _ _ _); refine RH.alloc rfl ?_; rintro _ _ ⟨b8, rfl, rfl⟩) | ((with_reducible show RH _ _ _ ⟨some 42, .buildSlice _ _ _, _, _, _, _⟩ _ _ _ _); (refine RH.eff rfl rfl (EOpS.e (EOpS.slitV (by ((repeat (first | exact Elts.nil | apply Elts.one1 rfl | apply Elts.agg2 rfl)); done)) (by simp) rfl rfl)) ?_; rintro _ _ ⟨b42, rfl, rfl⟩)) | ((with_reducible show RH _ _ _ ⟨_, .call ⟨.value (.func 67), _, _⟩, _, _, _, _⟩ _ _ _ _); refine RH.cP Try.call67 ?_; refine ⟨_, hasRelation_c _ _ _ (by omega) (by assumption), ?_⟩; rintro _ _ ⟨rfl, rfl⟩) | ((with_reducible show RH _ _ _ _ _ _ _ _); first | refine RH.val (hK := ?_) | refine RH.upd (hK := ?_)) | (with_reducible show RL _ _ _ (_ :: _) _ _ _; first | refine RL.guardYes rfl rfl rfl rfl ?_ | refine RL.guardNoS rfl rfl rfl rfl rfl rfl ?_ | refine RL.splitD rfl rfl rfl (fun h => ?_) (fun h => ?_) | refine RL.splitNB rfl rfl rfl (fun h => ?_) (fun h => ?_)) | (with_reducible first | refine Run.seq ?_ | refine Run.region ?_ | refine Run.block ?_ | refine Run.skip ?_ | refine Run.ret ?_) | (with_reducible show Run _ _ (.cond _ _ _) _ _ _; first | refine Run.condT rfl ?_ | refine Run.condD rfl (fun h => ?_) (fun h => ?_)) | (with_reducible first | refine seqN (K := Run _ _ _ _) ?_ | refine seqR ?_))
    all_goals first
      | (exfalso; omega)
      | (exfalso; simp_all; done)
      | (exfalso; simp_all; omega)
      | skip
    refine Run.sent (T := [hsl (tS tInt) (vsv (some ⟨b42, 0, none⟩, 0, 0)) [], hcells b8 [vint 0, vlit (.slice none 0 0)], hcells b5 [vint ((k + 1 : Nat) : Int), vsl 1 (fun t : List Int => [vsl 1 (fun x : Int => [vint x]) t]) xs]])
      ((SEnt.pick (.cons .head .nil)).trans (SEnt.packNil (tS tInt) rfl)) ?_
    refine Run.loop (α := Nat × Sv) (fun z => [(2, vint (q : Int)), (3, vint x), (5, vptr b5 0), (8, vptr b8 0), (10, vlit (vsv z.2)), (44, vsl 1 (fun t : List Int => [vsl 1 (fun x : Int => [vint x]) t]) xs), (45, vint (xs.length : Int)), (46, vint (z.1 : Int))])
      (fun z => [hsl (tS tInt) (vsv z.2) (fixL q x (xs.take z.1)), hcells b8 [vint 0, vlit (.slice none 0 0)], hcells b5 [vint ((k + 1 : Nat) : Int), vsl 1 (fun t : List Int => [vsl 1 (fun x : Int => [vint x]) t]) xs]])
      (fun z => z.1 ≤ xs.length) (fun z => xs.length - z.1) (0, (some ⟨b42, 0, none⟩, 0, 0)) (Nat.zero_le _) (Ent.of slA .refl) ?_
    rintro ⟨m, s⟩ hm
    dsimp only at hm ⊢
    have hle := fixL_le q x (xs.take m)
    have hle2 : (xs.take m).length ≤ 512 := by rw [List.length_take]; omega
    rcases Nat.lt_or_eq_of_le hm with h9 | h9
    · have hxk : xs[m].length = k + 1 := hlk _ (List.getElem_mem _)
      have e2 : (xs[m]).getD q 0 = (xs[m])[((q : Int)).toNat]'(by omega) := by
        rw [List.getD_eq_getElem?_getD, List.getElem?_eq_getElem (by omega)]; rfl
      repeat' (first | (with_reducible first | refine RL.done ?_ | refine RL.app1 ?_) | (with_reducible refine RL.wanted ?_ ?_; exact rfl) | ((with_reducible show RH _ _ _ ⟨some 60, .buildSlice _ _ _, _, _, _, _⟩ _ _ _ _); (refine RH.eff rfl rfl (EOpS.e (EOpS.slitV (by ((repeat (first | exact Elts.nil | apply Elts.one1 rfl | apply Elts.agg2 rfl)); done)) (by simp) rfl rfl)) ?_; rintro _ _ ⟨b60, rfl, rfl⟩)) | ((with_reducible show RH _ _ _ ⟨_, .call ⟨.value (.func 84), _, _⟩, _, _, _, _⟩ _ _ _ _); refine RH.cP Try.call84 ?_; refine ⟨_, without_c xs[m] q (by omega) (by omega), ?_⟩; rintro _ _ ⟨s1, rfl, rfl⟩) | ((with_reducible show RH _ _ _ ⟨_, .call ⟨.builtin .append, _, _⟩, _, _, _, _⟩ _ _ _ _); (refine RH.appR rfl rfl rfl (by repeat (first | exact Pick.nil | (apply Pick.cons; (with_reducible repeat (first | exact Rem.head | apply Rem.tail))))) (by first | omega | (simp; omega)) (by first | omega | (simp; omega)) ?_); rintro _ _ ⟨s, rfl, rfl⟩) | ((with_reducible show RH _ _ _ _ _ _ _ _); refine RH.val (hK := ?_)) | (with_reducible first | refine Run.seq ?_ | refine Run.region ?_ | refine Run.block ?_ | refine Run.skip ?_ | refine Run.exit ?_) | (with_reducible show Run _ _ (.cond _ _ _) _ _ _; refine Run.condD rfl (fun h => ?_) (fun h => ?_)) | (with_reducible first | refine seqN (K := Run _ _ _ _) ?_ | refine seqE ?_ | refine blockN ?_ | refine blockE ?_))
      all_goals first
        | (exfalso; omega)
        | (have hd := fixL_yes (p := q) (x := x) h9 (by rw [e2]; assumption)
           with_reducible refine seqN ?_
           exact ⟨(m + 1, _), by dsimp only; omega, by dsimp only; omega, Ent.of (by dsimp only; exact slA) (by dsimp only; rw [hd]; exact chA)⟩)
        | (have hd := fixL_no (p := q) (x := x) h9 (by rw [e2]; assumption)
           with_reducible refine seqN ?_
           exact ⟨(m + 1, s), by dsimp only; omega, by dsimp only; omega, Ent.of (by dsimp only; exact slA) (by dsimp only; rw [hd]; exact chA)⟩)
    · subst h9
      refine Run.sent (T := [hsl (tS tInt) (vsv s) (fixL q x xs), hcells b8 [vint 0, vlit (.slice none 0 0)], hcells b5 [vint ((k + 1 : Nat) : Int), vsl 1 (fun t : List Int => [vsl 1 (fun x : Int => [vint x]) t]) xs]]) (SEnt.ch (.cons .head (by rw [List.take_length]) chA)) ?_
      repeat' (first | (with_reducible refine RL.done ?_) | (with_reducible refine RL.wanted ?_ ?_; exact rfl) | ((with_reducible show RH _ _ _ ⟨_, .call ⟨.value (.func 73), _, _⟩, _, _, _, _⟩ _ _ _ _); refine RH.cL Try.call73 ?_; apply Exists.intro; apply And.intro; (focus ((repeat (first | exact LVs.nil | (apply LVs.sl; (with_reducible repeat (first | exact Has.head | apply Has.tail)); exact inferInstance; exact rfl) | apply LVs.refl)); done)); refine ⟨_, makeRelation_c _ k (fixL q x xs) (by omega) (by omega) (fixL_len (by omega) hlk), (by intro r H h; first | (obtain ⟨rfl, rfl⟩ := h; exact ⟨inferInstance, inferInstance⟩) | (obtain ⟨_, rfl, rfl⟩ := h; exact ⟨inferInstance, inferInstance⟩) | (obtain ⟨_, _, rfl, rfl⟩ := h; exact ⟨inferInstance, inferInstance⟩) | (obtain ⟨_, _, rfl, rfl, _⟩ := h; exact ⟨inferInstance, inferInstance⟩)), ?_⟩; rintro _ _ ⟨s2, rfl, rfl⟩; refine RL.nm ?_) | ((with_reducible show RH _ _ _ _ _ _ _ _); first | refine RH.val (hK := ?_) | refine RH.upd (hK := ?_)) | (with_reducible first | refine Run.seq ?_ | refine Run.region ?_ | refine Run.block ?_ | refine Run.skip ?_ | refine Run.exit ?_ | refine Run.ret ?_) | (with_reducible show Run _ _ (.cond _ _ _) _ _ _; refine Run.condD rfl (fun h => ?_) (fun h => ?_)) | (with_reducible first | refine seqN (K := Run _ _ _ _) ?_ | refine seqE ?_ | refine blockN ?_ | refine blockE ?_))
      all_goals first
        | (exfalso; omega)
        | (refine ⟨eA, _, [hsl (tS tInt) (vsv s2) (putF (fixL q x xs))], resA, ?_, ?_⟩
           · exact SEnt.ch chA
           · exact relRes_yes hg s2)
  · refine Spec.of_run2 (n := 68) Try.func19 rfl Try.results19 Try.ntmps19 rfl ?_
    by_cases h1 : relOk n a xs = true
    · have ha := relB_ar (relOk_rel' h1).2
      have hn := (relOk_rel' h1).1
      repeat' (first | (with_reducible first | refine RL.done ?_ | refine RL.app0 ?_) | (with_reducible refine RL.wanted ?_ ?_; exact rfl) | ((with_reducible show RH _ _ _ ⟨some 5, .box _ _, _, _, _, _⟩ _ _ _ _); (refine RH.boxAgg rfl rfl ?_; rintro _ _ ⟨b5, rfl, rfl⟩)) | ((with_reducible show RH _ _ _ ⟨some 8, .alloc _, _, _, _, _⟩ _ _ _ _); refine RH.alloc rfl ?_; rintro _ _ ⟨b8, rfl, rfl⟩) | ((with_reducible show RH _ _ _ ⟨some 42, .buildSlice _ _ _, _, _, _, _⟩ _ _ _ _); (refine RH.eff rfl rfl (EOpS.e (EOpS.slitV (by ((repeat (first | exact Elts.nil | apply Elts.one1 rfl | apply Elts.agg2 rfl)); done)) (by simp) rfl rfl)) ?_; rintro _ _ ⟨b42, rfl, rfl⟩)) | ((with_reducible show RH _ _ _ ⟨_, .call ⟨.value (.func 67), _, _⟩, _, _, _, _⟩ _ _ _ _); refine RH.cP Try.call67 ?_; refine ⟨_, hasRelation_c _ _ _ (by omega) (by assumption), ?_⟩; rintro _ _ ⟨rfl, rfl⟩) | ((with_reducible show RH _ _ _ _ _ _ _ _); first | refine RH.val (hK := ?_) | refine RH.upd (hK := ?_)) | (with_reducible show RL _ _ _ (_ :: _) _ _ _; first | refine RL.guardYes rfl rfl rfl rfl ?_ | refine RL.guardNoS rfl rfl rfl rfl rfl rfl ?_ | refine RL.splitD rfl rfl rfl (fun h => ?_) (fun h => ?_) | refine RL.splitNB rfl rfl rfl (fun h => ?_) (fun h => ?_)) | (with_reducible first | refine Run.seq ?_ | refine Run.region ?_ | refine Run.block ?_ | refine Run.skip ?_ | refine Run.ret ?_) | (with_reducible show Run _ _ (.cond _ _ _) _ _ _; first | refine Run.condT rfl ?_ | refine Run.condD rfl (fun h => ?_) (fun h => ?_)) | (with_reducible first | refine seqN (K := Run _ _ _ _) ?_ | refine seqR ?_))
      all_goals first
        | (refine ⟨eA, _, [hsl (tS tInt) (vsv (none, 0, 0)) []], resA, ?_, ?_⟩
           · exact (SEnt.ch .nil).trans (SEnt.nil _ _)
           · exact relRes_no (by simpa using hg))
        | (exfalso; apply hg; simp_all [fixOk]; done)
        | (exfalso; apply hg; simp_all [fixOk]; omega)
    · repeat' (first | (with_reducible first | refine RL.done ?_ | refine RL.app0 ?_) | (with_reducible refine RL.wanted ?_ ?_; exact rfl) | ((with_reducible show RH _ _ _ ⟨some 5, .box _ _, _, _, _, _⟩ _ _ _ _); (refine RH.boxAgg rfl rfl ?_; rintro _ _ ⟨b5, rfl, rfl⟩)) | ((with_reducible show RH _ _ _ ⟨some 8, .alloc _, _, _, _, _⟩ _ _ _ _); refine RH.alloc rfl ?_; rintro _ _ ⟨b8, rfl, rfl⟩) | ((with_reducible show RH _ _ _ ⟨some 42, .buildSlice _ _ _, _, _, _, _⟩ _ _ _ _); (refine RH.eff rfl rfl (EOpS.e (EOpS.slitV (by ((repeat (first | exact Elts.nil | apply Elts.one1 rfl | apply Elts.agg2 rfl)); done)) (by simp) rfl rfl)) ?_; rintro _ _ ⟨b42, rfl, rfl⟩)) | ((with_reducible show RH _ _ _ ⟨_, .call ⟨.value (.func 67), _, _⟩, _, _, _, _⟩ _ _ _ _); refine RH.cP Try.call67 ?_; refine ⟨_, hasRelation_c _ _ _ (by omega) (by assumption), ?_⟩; rintro _ _ ⟨rfl, rfl⟩) | ((with_reducible show RH _ _ _ _ _ _ _ _); first | refine RH.val (hK := ?_) | refine RH.upd (hK := ?_)) | (with_reducible show RL _ _ _ (_ :: _) _ _ _; first | refine RL.guardYes rfl rfl rfl rfl ?_ | refine RL.guardNoS rfl rfl rfl rfl rfl rfl ?_ | refine RL.splitD rfl rfl rfl (fun h => ?_) (fun h => ?_) | refine RL.splitNB rfl rfl rfl (fun h => ?_) (fun h => ?_)) | (with_reducible first | refine Run.seq ?_ | refine Run.region ?_ | refine Run.block ?_ | refine Run.skip ?_ | refine Run.ret ?_) | (with_reducible show Run _ _ (.cond _ _ _) _ _ _; first | refine Run.condT rfl ?_ | refine Run.condD rfl (fun h => ?_) (fun h => ?_)) | (with_reducible first | refine seqN (K := Run _ _ _ _) ?_ | refine seqR ?_))
      all_goals first
        | (refine ⟨eA, _, [hsl (tS tInt) (vsv (none, 0, 0)) []], resA, ?_, ?_⟩
           · exact (SEnt.ch .nil).trans (SEnt.nil _ _)
           · exact relRes_no (by simpa using hg))
        | (exfalso; apply h1; simp_all; done)
end Go.Proofs.Ytiifdhdhjioefaa
