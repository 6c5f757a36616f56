/- What the laws of relations say, in plain terms: sets of tuples, their composition, reverse, meet, and the tuples with an element fixed. No program in sight. -/
import Derived.Test.YtiifdhdhjioefaaCompo
import Derived.Test.YtiifdhdhjioefaaFix
import Derived.Test.YtiifdhdhjioefaaSpanP
namespace Go.Proofs.Ytiifdhdhjioefaa
open Go Go.Proofs
set_option linter.unusedVariables false
theorem relOk_set {n : Int} {k : Nat} {ts : List (List Int)} (hn : 1 ≤ n ∧ n ≤ 8) (hk : 1 ≤ k ∧ k ≤ 3) (ht : ∀ u ∈ ts, u.length = k ∧ elB n u = true) : relOk n (k : Int) (putF ts) = true := by
  obtain ⟨h1, h2⟩ := putF_str (fun u hu => (ht u hu).1)
  have hu : ∀ u ∈ putF ts, u.length = k ∧ elB n u = true := fun u hu => ht u ((h2 u).1 hu)
  have hs := str_sorted h1 (fun u h => (hu u h).1)
  simp only [relOk, relB, Bool.and_eq_true, decide_eq_true_eq, List.all_eq_true, List.mem_range]
  refine ⟨hn, by omega, fun j hj => ?_⟩
  obtain ⟨h3, h4⟩ := hu _ (List.getElem_mem hj)
  rw [tupAt, getD_at _ [] j hj, decide_eq_true (by omega), h4, Bool.true_and, Bool.true_and, Bool.or_eq_true]
  by_cases h0 : j = 0
  · exact .inl (by simp [h0])
  · right
    rw [getD_at _ [] (j - 1) (by omega)]
    exact hs (j - 1) j (by omega) hj
theorem rel_facts {n a : Int} {xs : List (List Int)} (h : relOk n a xs = true) : (1 ≤ n ∧ n ≤ 8) ∧ (1 ≤ a ∧ a ≤ 3) ∧ (∀ t ∈ xs, (t.length : Int) = a ∧ elB n t = true) ∧ Str xs := by
  obtain ⟨hn, hB⟩ := relOk_rel' h
  have hl := relB_len2 hB
  have hs := relB_sorted hB
  refine ⟨hn, relB_ar hB, fun t ht => ⟨hl t ht, relB_el hB t ht⟩, ?_⟩
  rw [Str, List.pairwise_iff_getElem]
  intro i j hi hj hij
  have h1 := hl _ (List.getElem_mem hi)
  have h2 := hl _ (List.getElem_mem hj)
  exact (less_cmp (by omega)).1 (hs i j hij hj)
theorem str_nodup {xs : List (List Int)} (h : Str xs) : xs.Nodup := by
  rw [List.nodup_iff_pairwise_ne]
  refine h.imp ?_
  intro a b h2 e
  subst e
  exact cmp_irrefl h2
theorem putF_count {k : Nat} {ts : List (List Int)} (hk : ∀ u ∈ ts, u.length = k) (hd : ts.Nodup) : (putF ts).length = ts.length := by
  obtain ⟨h1, h2⟩ := putF_str hk
  exact Nat.le_antisymm (nodup_le (str_nodup h1) fun u hu => (h2 u).1 hu) (nodup_le hd fun u hu => (h2 u).2 hu)
/-- the reverse of a relation is one -/
theorem rev_rel {n a : Int} {xs : List (List Int)} (h : relOk n a xs = true) : relOk n a (putF (xs.map List.reverse)) = true := by
  obtain ⟨hn, ha, hx, _⟩ := rel_facts h
  have := relOk_set (n := n) (k := a.toNat) (ts := xs.map List.reverse) hn (by omega) fun u hu => by
    obtain ⟨t, ht, rfl⟩ := List.mem_map.1 hu
    obtain ⟨h1, h2⟩ := hx t ht
    refine ⟨by rw [List.length_reverse]; omega, ?_⟩
    rw [elB, List.all_reverse]; exact h2
  rwa [Int.toNat_of_nonneg (by omega)] at this
theorem mem_impL {xs ys : List (List Int)} {w : List Int} : w ∈ impL xs ys ↔ ∃ t ∈ xs, ∃ u ∈ ys, t.getD 1 0 = u.getD 0 0 ∧ w = [t.getD 0 0, u.getD 1 0] := by
  rw [impL, List.mem_flatMap]
  constructor
  · rintro ⟨t, ht, hw⟩
    obtain ⟨u, hu, rfl⟩ := List.mem_map.1 hw
    obtain ⟨h1, h2⟩ := List.mem_filter.1 hu
    exact ⟨t, ht, u, h1, of_decide_eq_true h2, rfl⟩
  · rintro ⟨t, ht, u, hu, e, rfl⟩
    exact ⟨t, ht, List.mem_map.2 ⟨u, List.mem_filter.2 ⟨hu, decide_eq_true e⟩, rfl⟩⟩
theorem pair_of {t : List Int} (h : t.length = 2) : ∃ p q, t = [p, q] := by
  match t, h with
  | [p, q], _ => exact ⟨p, q, rfl⟩
theorem cpo_rel {n a b : Int} {xs ys : List (List Int)} (h : cpoOk n a xs b ys = true) : relOk n 2 (putF (impL xs ys)) = true := by
  obtain ⟨h1, h2, rfl, rfl⟩ := cpoOk_at h
  obtain ⟨hn, _, hx, _⟩ := rel_facts h1
  obtain ⟨_, _, hy, _⟩ := rel_facts h2
  exact relOk_set (n := n) (k := 2) hn (by omega) fun w hw => by
    obtain ⟨t, ht, u, hu, _, rfl⟩ := mem_impL.1 hw
    obtain ⟨p, q, rfl⟩ := pair_of (t := t) (by have := (hx t ht).1; omega)
    obtain ⟨r, s, rfl⟩ := pair_of (t := u) (by have := (hy u hu).1; omega)
    have e1 := (hx _ ht).2
    have e2 := (hy _ hu).2
    simp only [elB, List.all_cons, List.all_nil, Bool.and_true, Bool.and_eq_true, decide_eq_true_eq] at e1 e2
    refine ⟨rfl, ?_⟩
    simp only [elB, List.all_cons, List.all_nil, Bool.and_true, Bool.and_eq_true, decide_eq_true_eq, List.getD_cons_zero, List.getD_cons_succ]
    exact ⟨e1.1, e2.2⟩
theorem mem_rev {k : Nat} {xs : List (List Int)} (hk : ∀ u ∈ xs, u.length = k) {w : List Int} : w ∈ putF (xs.map List.reverse) ↔ w.reverse ∈ xs := by
  rw [(putF_str (k := k) (fun u hu => by obtain ⟨t, ht, rfl⟩ := List.mem_map.1 hu; rw [List.length_reverse]; exact hk t ht)).2, List.mem_map]
  constructor
  · rintro ⟨t, ht, rfl⟩; rwa [List.reverse_reverse]
  · intro h; exact ⟨_, h, List.reverse_reverse w⟩
/-- relations compose as their reverses do in the other order -/
theorem cpo_rev {n a b : Int} {xs ys : List (List Int)} (h : cpoOk n a xs b ys = true) : putF (impL (putF (ys.map List.reverse)) (putF (xs.map List.reverse))) = putF ((putF (impL xs ys)).map List.reverse) := by
  obtain ⟨h1, h2, rfl, rfl⟩ := cpoOk_at h
  obtain ⟨hn, _, hx, _⟩ := rel_facts h1
  obtain ⟨_, _, hy, _⟩ := rel_facts h2
  have hx2 : ∀ t ∈ xs, t.length = 2 := fun t ht => by have := (hx t ht).1; omega
  have hy2 : ∀ t ∈ ys, t.length = 2 := fun t ht => by have := (hy t ht).1; omega
  obtain ⟨s1, m1⟩ := putF_str (impL_len (putF (ys.map List.reverse)) (putF (xs.map List.reverse)))
  obtain ⟨s2, m2⟩ := putF_str (impL_len xs ys)
  have hr2 : ∀ u ∈ putF (impL xs ys), u.length = 2 := fun u hu => impL_len xs ys u ((m2 u).1 hu)
  refine str_ext s1 (putF_str (k := 2) fun u hu => by obtain ⟨t, ht, rfl⟩ := List.mem_map.1 hu; rw [List.length_reverse]; exact hr2 t ht).1 fun w => ?_
  rw [m1, mem_rev hr2, m2, mem_impL, mem_impL]
  constructor
  · rintro ⟨t, ht, u, hu, e, rfl⟩
    have ht := (mem_rev hy2).1 ht
    have hu := (mem_rev hx2).1 hu
    obtain ⟨p, q, ep⟩ := pair_of (hy2 _ ht)
    obtain ⟨r, s, er⟩ := pair_of (hx2 _ hu)
    have e1 : t = [q, p] := by rw [← List.reverse_reverse t, ep]; rfl
    have e2 : u = [s, r] := by rw [← List.reverse_reverse u, er]; rfl
    subst e1; subst e2
    have e3 : p = s := by simpa using e
    exact ⟨_, hu, _, ht, by simp [e3], by simp⟩
  · rintro ⟨t, ht, u, hu, e, ew⟩
    obtain ⟨p, q, rfl⟩ := pair_of (hx2 _ ht)
    obtain ⟨r, s, rfl⟩ := pair_of (hy2 _ hu)
    have e3 : q = r := by simpa using e
    have ew2 : w = [s, p] := by rw [← List.reverse_reverse w, ew]; rfl
    exact ⟨[s, r], (mem_rev hy2).2 (by simpa using hu), [q, p], (mem_rev hx2).2 (by simpa using ht), by simp [e3], by simp [ew2]⟩
theorem cpo_revOk {n a b : Int} {xs ys : List (List Int)} (h : cpoOk n a xs b ys = true) : cpoOk n b (putF (ys.map List.reverse)) a (putF (xs.map List.reverse)) = true := by
  obtain ⟨h1, h2, rfl, rfl⟩ := cpoOk_at h
  simp only [cpoOk, rev_rel h1, rev_rel h2, Bool.and_self, decide_true]
/-- the tuples that have an element fixed -/
theorem fix_count {n a p x : Int} {xs : List (List Int)} (h : fixOk n a xs p x = true) : (putF (fixL p.toNat x xs)).length = (xs.filter fun t => decide (t.getD p.toNat 0 = x)).length := by
  obtain ⟨h1, h2, h3, h4⟩ := fixOk_at h
  obtain ⟨hn, _, hx, hs⟩ := rel_facts h1
  have hlen : ∀ t ∈ xs, t.length = a.toNat := fun t ht => by have := (hx t ht).1; omega
  have hp : p.toNat < a.toNat := by omega
  have hmem : ∀ t, t ∈ xs.filter (fun t => decide (t.getD p.toNat 0 = x)) → t ∈ xs ∧ t.getD p.toNat 0 = x := fun t ht => by
    obtain ⟨k1, k2⟩ := List.mem_filter.1 ht
    exact ⟨k1, of_decide_eq_true k2⟩
  have hinj : ∀ t u, t.length = a.toNat → u.length = a.toNat → t.getD p.toNat 0 = x → u.getD p.toNat 0 = x → wo p.toNat t = wo p.toNat u → t = u := fun t u k1 k2 k3 k4 e => by
    rw [wo, wo] at e
    obtain ⟨e1, e2⟩ := List.append_inj e (by rw [List.length_take, List.length_take, k1, k2])
    rw [List.getD_eq_getElem?_getD, List.getElem?_eq_getElem (show p.toNat < t.length by omega), Option.getD_some] at k3
    rw [List.getD_eq_getElem?_getD, List.getElem?_eq_getElem (show p.toNat < u.length by omega), Option.getD_some] at k4
    rw [← List.take_append_drop p.toNat t, ← List.take_append_drop p.toNat u, e1, List.drop_eq_getElem_cons (show p.toNat < t.length by omega), List.drop_eq_getElem_cons (show p.toNat < u.length by omega), e2, k3, k4]
  rw [putF_count (k := a.toNat - 1), fixL, List.length_map]
  · intro u hu
    obtain ⟨t, ht, rfl⟩ := List.mem_map.1 hu
    have := hlen t (hmem t ht).1
    rw [wo_len (by omega), this]
  · have hd : (xs.filter fun t => decide (t.getD p.toNat 0 = x)).Nodup := (str_nodup hs).sublist List.filter_sublist
    rw [fixL, List.nodup_iff_pairwise_ne, List.pairwise_map]
    refine (List.nodup_iff_pairwise_ne.1 hd).imp_of_mem ?_
    intro t u ht hu hne e
    obtain ⟨k1, k2⟩ := hmem t ht
    obtain ⟨k3, k4⟩ := hmem u hu
    exact hne (hinj t u (hlen t k1) (hlen u k3) k2 k4 e)
theorem rof_rel {n a : Int} {ts : List (List Int)} (h : rofOk n a ts = true) : relOk n a (putF ts) = true := by
  simp only [rofOk, Bool.and_eq_true, decide_eq_true_eq, rowsOk, List.all_eq_true] at h
  obtain ⟨⟨⟨hn, ha⟩, _⟩, hr⟩ := h
  have := relOk_set (n := n) (k := a.toNat) (ts := ts) hn (by omega) fun u hu => by
    obtain ⟨h1, h2⟩ := hr u hu
    exact ⟨by omega, h2⟩
  rwa [Int.toNat_of_nonneg (by omega)] at this
theorem meet_both {xs ys : List (List Int)} {t : List Int} (h : t ∈ meetL xs ys) : t ∈ xs ∧ t ∈ ys := by
  obtain ⟨h1, h2⟩ := List.mem_filter.1 h
  exact ⟨h1, of_decide_eq_true h2⟩
end Go.Proofs.Ytiifdhdhjioefaa
