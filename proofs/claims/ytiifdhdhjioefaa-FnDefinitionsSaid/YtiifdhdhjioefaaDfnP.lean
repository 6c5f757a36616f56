/- What the law of definitions says, in plain terms: a definition with fewer atoms defines more tuples; an operation that keeps the relations of a definition keeps the relation that it defines. No program in sight. -/
import Derived.Test.YtiifdhdhjioefaaRlsP
import Derived.Test.YtiifdhdhjioefaaDefR
import Derived.Test.YtiifdhdhjioefaaKeep
import Derived.Test.YtiifdhdhjioefaaSubP
namespace Go.Proofs.Ytiifdhdhjioefaa
open Go Go.Proofs
set_option linter.unusedVariables false
theorem mem_defL {n : Int} {k : Nat} {rs : List (Int × List (List Int))} {ats : List (Int × List Int)} {fr : List Int} {m : Nat} {t : List Int} : t ∈ defL n k rs ats fr m ↔ ∃ i, i < m ∧ fitsB rs ats (lowd ((i : Nat) : Int) n k) = true ∧ t = comp fr (lowd (i : Int) n k) := by
  rw [defL, List.mem_map]
  constructor
  · rintro ⟨i, hi, rfl⟩
    obtain ⟨h1, h2⟩ := List.mem_filter.1 hi
    exact ⟨i, List.mem_range.1 h1, h2, rfl⟩
  · rintro ⟨i, h1, h2, rfl⟩
    exact ⟨i, List.mem_filter.2 ⟨List.mem_range.2 h1, h2⟩, rfl⟩
theorem defRel_mem {n : Int} {k : Nat} {rs : List (Int × List (List Int))} {ats : List (Int × List Int)} {fr : List Int} {m : Nat} {t : List Int} : t ∈ putF (defL n k rs ats fr m) ↔ t ∈ defL n k rs ats fr m := (putF_str (defL_len n k rs ats fr m)).2 t
theorem def_less {n v : Int} {rs : List (Int × List (List Int))} {ats : List (Int × List Int)} {fr : List Int} (m : Nat) (h : defB n rs v ats fr = true) : defB n rs v (ats.take m) fr = true := by
  obtain ⟨h1, h2, h3, h4, h5⟩ := defB_at h
  obtain ⟨k1, k2, k3, k4, k5⟩ := dszB_at h1
  simp only [defB, dszB, Bool.and_eq_true, List.all_eq_true, decide_eq_true_eq]
  exact ⟨⟨k1, k2, k3, k4, by rw [List.length_take]; omega⟩, h2, fun a ha => h3 a (List.mem_of_mem_take ha), h4, h5⟩
theorem def_more {n : Int} {k : Nat} {rs : List (Int × List (List Int))} {ats : List (Int × List Int)} {fr : List Int} {j m : Nat} {t : List Int} (h : t ∈ putF (defL n k rs ats fr m)) : t ∈ putF (defL n k rs (ats.take j) fr m) := by
  obtain ⟨i, h1, h2, rfl⟩ := mem_defL.1 (defRel_mem.1 h)
  refine defRel_mem.2 (mem_defL.2 ⟨i, h1, ?_, rfl⟩)
  rw [fitsB, List.all_eq_true] at h2 ⊢
  exact fun a ha => h2 a (List.mem_of_mem_take ha)
theorem elB_of {n : Int} {l : List Int} (h : ∀ x ∈ l, 0 ≤ x ∧ x < n) : elB n l = true := by
  rw [elB, List.all_eq_true]
  intro x hx
  simpa using h x hx
theorem elB_all {n : Int} {l : List Int} (h : elB n l = true) : ∀ x ∈ l, 0 ≤ x ∧ x < n := fun x hx => by
  rw [elB, List.all_eq_true] at h
  simpa using h x hx
theorem def_rel {n v : Int} {rs : List (Int × List (List Int))} {ats : List (Int × List Int)} {fr : List Int} (h : defB n rs v ats fr = true) : relOk n (fr.length : Int) (putF (defL n v.toNat rs ats fr (pw n v.toNat).toNat)) = true := by
  obtain ⟨h1, h2, h3, h4, h5⟩ := defB_at h
  obtain ⟨k1, k2, k3, k4, k5⟩ := dszB_at h1
  refine relOk_set k1 (by omega) fun u hu => ?_
  obtain ⟨i, _, _, rfl⟩ := mem_defL.1 hu
  refine ⟨comp_len _ _, elB_of (comp_el (fun x hx => lowd_el k1.1 _ x hx) fun y hy => ?_)⟩
  have := elB_all h5 y hy
  rw [lowd_length]; omega
/-- places chosen before and after an operation -/
theorem apply_comp {n : Int} {tb : List Int} {ws : List (List Int)} {k : Nat} {f : List Int} (hf : ∀ x ∈ f, 0 ≤ x ∧ x.toNat < k) : applyT n tb (ws.map (comp f)) f.length = comp f (applyT n tb ws k) := by
  refine List.ext_getElem (by simp [applyT, comp]) fun j h1 h2 => ?_
  have hj : j < f.length := by simpa [applyT] using h1
  have hx := hf _ (List.getElem_mem hj)
  have e : colT (ws.map (comp f)) j = colT ws (f[j]).toNat := by
    rw [colT, colT, List.map_map]
    refine List.map_congr_left fun w _ => ?_
    show (comp f w).getD j 0 = w.getD (f[j]).toNat 0
    rw [comp, List.getD_eq_getElem?_getD, List.getElem?_map, List.getElem?_eq_getElem hj]; rfl
  simp only [applyT, comp, List.getElem_map, List.getElem_range, e]
  rw [getD_at ((List.range k).map fun j => tb.getD (hor n (colT ws j)).toNat 0) 0 _ (by simpa using hx.2), List.getElem_map, List.getElem_range]
theorem chosen_ex {xs : List (List Int)} : ∀ ts : List (List Int), (∀ t ∈ ts, t ∈ xs) → ∃ ns : List Int, ns.length = ts.length ∧ (∀ x ∈ ns, 0 ≤ x ∧ x < (xs.length : Int)) ∧ chosen xs ns = ts
  | [], _ => ⟨[], rfl, (fun x h => by cases h), rfl⟩
  | t :: ts, h => by
    obtain ⟨ns, h1, h2, h3⟩ := chosen_ex ts fun u hu => h u (by simp [hu])
    obtain ⟨i, hi, e⟩ := List.mem_iff_getElem.1 (h t (by simp))
    refine ⟨(i : Int) :: ns, by simp [h1], fun x hx => ?_, ?_⟩
    · rcases List.mem_cons.1 hx with rfl | hx
      · omega
      · exact h2 x hx
    · show xs.getD ((i : Int)).toNat [] :: chosen xs ns = t :: ts
      rw [h3, Int.toNat_natCast, List.getD_eq_getElem?_getD, List.getElem?_eq_getElem hi, e]; rfl
theorem keep_all {n a : Int} {tb : List Int} {ar : Int} {xs : List (List Int)} (h : keepV n a tb ar xs = true) {ts : List (List Int)} (hl : ts.length = a.toNat) (ht : ∀ t ∈ ts, t ∈ xs) : applyT n tb ts ar.toNat ∈ xs := by
  simp only [keepV, Bool.and_eq_true, Bool.not_eq_true'] at h
  have hb := h.2
  rw [brkF, Option.isSome_map] at hb
  have hno : ∀ i, i < (pw (xs.length : Int) a.toNat).toNat → applyT n tb (chosen xs (lowd (i : Int) (xs.length : Int) a.toNat)) ar.toNat ∈ xs := fun i hi => by
    have h1 : (List.range (pw (xs.length : Int) a.toNat).toNat).find? (brkBad n a.toNat tb ar.toNat xs) = none := by
      cases hf : (List.range (pw (xs.length : Int) a.toNat).toNat).find? (brkBad n a.toNat tb ar.toNat xs) with
      | none => rfl
      | some y => rw [hf] at hb; cases hb
    have h2 := List.find?_eq_none.1 h1 i (List.mem_range.2 hi)
    rw [brkBad, Bool.not_eq_true', decide_eq_false_iff_not] at h2
    exact Decidable.not_not.1 h2
  obtain ⟨ns, n1, n2, n3⟩ := chosen_ex ts ht
  by_cases h0 : a.toNat = 0
  · have e0 : ns = [] := List.length_eq_zero_iff.1 (by omega)
    have h3 := hno 0 (by rw [h0]; simp [pw])
    rw [h0] at h3
    have e1 : lowd ((0 : Nat) : Int) (xs.length : Int) 0 = ns := by rw [e0]; exact List.length_eq_zero_iff.1 (lowd_length _ _ _)
    rw [e1, n3] at h3
    exact h3
  · have hK : (1 : Int) ≤ (xs.length : Int) := by
      obtain ⟨t, ht2⟩ := List.exists_mem_of_ne_nil ts (by intro e; rw [e] at hl; simp at hl; omega)
      have := List.length_pos_of_mem (ht t ht2)
      omega
    obtain ⟨k1, k2, k3⟩ := lowd_hor (xs.length : Int) hK ns n2
    rw [n1, hl] at k2 k3
    have h3 := hno (hor (xs.length : Int) ns).toNat (by omega)
    rw [Int.toNat_of_nonneg k1, k3, n3] at h3
    exact h3
theorem keep_of {n a : Int} {tb : List Int} {ar : Int} {xs : List (List Int)} (hask : askB n a tb ar xs = true) (h : ∀ ts : List (List Int), ts.length = a.toNat → (∀ t ∈ ts, t ∈ xs) → applyT n tb ts ar.toNat ∈ xs) : keepV n a tb ar xs = true := by
  rw [keepV, hask, Bool.true_and, Bool.not_eq_true', brkF, Option.isSome_map]
  have h1 : (List.range (pw (xs.length : Int) a.toNat).toNat).find? (brkBad n a.toNat tb ar.toNat xs) = none := by
    rw [List.find?_eq_none]
    intro i hi
    have hi := List.mem_range.1 hi
    have h2 := h (chosen xs (lowd (i : Int) (xs.length : Int) a.toNat)) (by simp [chosen, lowd_length]) fun t ht => by
      obtain ⟨x, hx, rfl⟩ := List.mem_map.1 ht
      by_cases h0 : xs.length = 0
      · exfalso
        rw [h0] at hi hx
        by_cases ha : a.toNat = 0
        · rw [ha] at hx
          have : lowd ((i : Nat) : Int) ((0 : Nat) : Int) 0 = [] := List.length_eq_zero_iff.1 (lowd_length _ _ _)
          rw [this] at hx; cases hx
        · have e : pw ((0 : Nat) : Int) a.toNat = 0 := by
            obtain ⟨m, hm⟩ : ∃ m, a.toNat = m + 1 := ⟨a.toNat - 1, by omega⟩
            rw [hm]; simp [pw]
          rw [e] at hi; simp at hi
      · have hx2 := lowd_el (n := (xs.length : Int)) (by omega) _ x hx
        rw [List.getD_eq_getElem?_getD, List.getElem?_eq_getElem (show x.toNat < xs.length by omega)]
        exact List.getElem_mem _
    rw [brkBad, Bool.not_eq_true', decide_eq_false_iff_not]
    exact fun h3 => h3 h2
  rw [h1]; rfl
theorem lists_ex {P : List Int → List Int → Prop} : ∀ ts : List (List Int), (∀ t ∈ ts, ∃ w, P t w) → ∃ ws : List (List Int), ws.length = ts.length ∧ ∀ i (h1 : i < ts.length) (h2 : i < ws.length), P ts[i] ws[i]
  | [], _ => ⟨[], rfl, fun i h => absurd h (Nat.not_lt_zero i)⟩
  | t :: ts, h => by
    obtain ⟨w, hw⟩ := h t (by simp)
    obtain ⟨ws, h1, h2⟩ := lists_ex ts fun u hu => h u (by simp [hu])
    refine ⟨w :: ws, by simp [h1], fun i k1 k2 => ?_⟩
    cases i with
    | zero => exact hw
    | succ i => exact h2 i (by simpa using k1) (by simpa using k2)
/-- an operation that keeps all relations of a definition keeps the relation that it defines -/
theorem def_keeps {n v a : Int} {tb : List Int} {rs : List (Int × List (List Int))} {ats : List (Int × List Int)} {fr : List Int} (hd : defB n rs v ats fr = true) (hop : opB n a tb = true) (hk : ∀ y ∈ rs, keepV n a tb y.1 y.2 = true)
    (hask : askB n a tb (fr.length : Int) (putF (defL n v.toNat rs ats fr (pw n v.toNat).toNat)) = true) : keepV n a tb (fr.length : Int) (putF (defL n v.toNat rs ats fr (pw n v.toNat).toNat)) = true := by
  obtain ⟨h1, h2, h3, h4, h5⟩ := defB_at hd
  obtain ⟨k1, k2, k3, k4, k5⟩ := dszB_at h1
  have hop2 := hop
  simp only [opB, Bool.and_eq_true, decide_eq_true_eq] at hop2
  obtain ⟨⟨p0, p3⟩, p4, p5⟩ := hop2
  refine keep_of hask fun ts hl ht => ?_
  rw [Int.toNat_natCast]
  obtain ⟨ws, w1, w2⟩ := lists_ex (P := fun t w => w.length = v.toNat ∧ (∀ x ∈ w, 0 ≤ x ∧ x < n) ∧ fitsB rs ats w = true ∧ t = comp fr w) ts fun t h => by
    obtain ⟨i, _, h7, h8⟩ := mem_defL.1 (defRel_mem.1 (ht t h))
    exact ⟨_, lowd_length _ _ _, lowd_el k1.1 _, h7, h8⟩
  have hw : ∀ w ∈ ws, w.length = v.toNat ∧ (∀ x ∈ w, 0 ≤ x ∧ x < n) ∧ fitsB rs ats w = true := fun w hw => by
    obtain ⟨i, hi, rfl⟩ := List.mem_iff_getElem.1 hw
    have := w2 i (by omega) hi
    exact ⟨this.1, this.2.1, this.2.2.1⟩
  have ets : ts = ws.map (comp fr) := List.ext_getElem (by simp [w1]) fun i i1 i2 => by
    rw [List.getElem_map]
    exact (w2 i i1 (by simpa using i2)).2.2.2
  have hfr : ∀ x ∈ fr, 0 ≤ x ∧ x.toNat < v.toNat := fun x hx => by have := elB_all h5 x hx; omega
  rw [ets, apply_comp hfr]
  have hap : ApOk n tb ws v.toNat := ⟨k1.1, k1.2, by omega, by rw [w1, hl]; exact p4, fun w h => ⟨Nat.le_of_eq (hw w h).1.symm, elB_of (hw w h).2.1⟩, by omega⟩
  have hel := elB_all (applyT_el hap p5)
  obtain ⟨q1, q2, q3⟩ := lowd_hor n k1.1 (applyT n tb ws v.toNat) hel
  rw [applyT_length] at q2 q3
  refine defRel_mem.2 (mem_defL.2 ⟨(hor n (applyT n tb ws v.toNat)).toNat, by omega, ?_, by rw [Int.toNat_of_nonneg q1, q3]⟩)
  rw [Int.toNat_of_nonneg q1, q3, fitsB, List.all_eq_true]
  intro at0 hat
  obtain ⟨b1, b2, b3⟩ := atomB_at (h3 at0 hat)
  have hvr : ∀ x ∈ at0.2, 0 ≤ x ∧ x.toNat < v.toNat := fun x hx => by have := elB_all b3 x hx; omega
  have hfit : ∀ w ∈ ws, fitB rs w at0 = true := fun w h => by
    have := (hw w h).2.2
    rw [fitsB, List.all_eq_true] at this
    exact this at0 hat
  by_cases hneg : at0.1 < 0
  · rw [arOf_neg hneg] at b2
    have c0 : ∀ w : List Int, 0 < (comp at0.2 w).length := fun w => by rw [comp_len]; omega
    have c1 : ∀ w : List Int, 1 < (comp at0.2 w).length := fun w => by rw [comp_len]; omega
    have e2 : at0.2.length = 2 := by omega
    rw [fitB, if_pos hneg, decide_eq_true_eq, ← apply_comp hvr, e2]
    have hcol : colT (ws.map (comp at0.2)) 0 = colT (ws.map (comp at0.2)) 1 := by
      rw [colT, colT, List.map_map, List.map_map]
      refine List.map_congr_left fun w h => ?_
      have := hfit w h
      rw [fitB, if_pos hneg, decide_eq_true_eq] at this
      exact this
    simp [applyT, List.range_succ, hcol]
  · have hx : at0.1.toNat < rs.length := by omega
    rw [arOf_at (by omega) hx] at b2
    rw [fitB_pos hneg hx, decide_eq_true_eq, ← apply_comp hvr]
    have hr := keep_all (hk _ (List.getElem_mem hx)) (ts := ws.map (comp at0.2)) (by rw [List.length_map, w1, hl]) fun t h => by
      obtain ⟨w, hw2, rfl⟩ := List.mem_map.1 h
      have := hfit w hw2
      rw [fitB_pos hneg hx, decide_eq_true_eq] at this
      exact this
    have e : (rs[at0.1.toNat]).1.toNat = at0.2.length := by omega
    rw [e] at hr
    exact hr
end Go.Proofs.Ytiifdhdhjioefaa
