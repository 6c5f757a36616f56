/- Clones, in plain terms: adding compositions round by round, all of them (impl) or those with a new argument (spec): the same outcome. No program, no conditions but ranges. -/
import Derived.Test.YtejeeokjjbiadaaAppl
import Derived.Test.YtejeeokjjbiadaaNext
namespace Go.Proofs.Ytejeeokjjbiadaa
open Go Go.Proofs
set_option linter.unusedVariables false

abbrev CS := List (List Int) × List (Int × List Int)
def addC (c : CS) (t : List Int) (st : Int × List Int) : CS := if t ∈ c.1 then c else (c.1 ++ [t], c.2 ++ [st])
/-- no more than 60 are kept -/
def addO (c : CS) (t : List Int) (st : Int × List Int) : Option CS := if t ∈ c.1 then some c else if c.1.length = 60 then none else some (c.1 ++ [t], c.2 ++ [st])
def stepO (n : Int) (size : Nat) (f : Int × List Int) (j : Nat) (K : Nat) (c : CS) (i : Nat) : Option CS :=
  addO c (applyT n f.2 (chosen c.1 (lowd (i : Int) (K : Int) f.1.toNat)) size) ((j : Int), lowd (i : Int) (K : Int) f.1.toNat)
def fresh (K k b i : Nat) : Bool := (lowd (i : Int) (K : Int) k).any (fun x => decide ((b : Int) ≤ x)) || b == 0
def stepS (n : Int) (size : Nat) (f : Int × List Int) (j : Nat) (K b : Nat) (c : CS) (i : Nat) : Option CS := if fresh K f.1.toNat b i then stepO n size f j K c i else some c
def many (K : Nat) (f : Int × List Int) : Nat := (pw (K : Int) f.1.toNat).toNat
def opL (n : Int) (size K : Nat) (c : CS) (p : (Int × List Int) × Nat) : Option CS := (List.range' 0 (many K p.1)).foldlM (stepO n size p.1 p.2 K) c
def opS (n : Int) (size K b : Nat) (c : CS) (p : (Int × List Int) × Nat) : Option CS := (List.range' 0 (many K p.1)).foldlM (stepS n size p.1 p.2 K b) c
def rndL (n : Int) (size : Nat) (ops : List (Int × List Int)) (K : Nat) (c : CS) : Option CS := ops.zipIdx.foldlM (opL n size K) c
def rndS (n : Int) (size : Nat) (ops : List (Int × List Int)) (K b : Nat) (c : CS) : Option CS := ops.zipIdx.foldlM (opS n size K b) c
def cloneR (n : Int) (size : Nat) (ops : List (Int × List Int)) : Nat → CS → Int → Option CS
  | 0, c, _ => some c
  | f + 1, c, old => if old < (c.1.length : Int) then (rndL n size ops c.1.length c).bind fun c' => cloneR n size ops f c' (c.1.length : Int) else some c
def cloneS (n : Int) (size : Nat) (ops : List (Int × List Int)) : Nat → CS → Nat → Option CS
  | 0, c, _ => some c
  | f + 1, c, b => if b < c.1.length then (rndS n size ops c.1.length b c).bind fun c' => cloneS n size ops f c' c.1.length else some c

/-! ### what steps leave -/
theorem addO_pre {c c' : CS} {t : List Int} {st : Int × List Int} (h : addO c t st = some c') : c.1 <+: c'.1 ∧ t ∈ c'.1 := by
  unfold addO at h
  split at h
  · cases h; exact ⟨List.prefix_refl _, by assumption⟩
  · split at h
    · cases h
    · cases h; exact ⟨List.prefix_append _ _, by simp⟩
theorem chosen_pre {xs ys : List (List Int)} (h : xs <+: ys) {ns : List Int} (hn : ∀ x ∈ ns, 0 ≤ x ∧ x.toNat < xs.length) : chosen ys ns = chosen xs ns := by
  apply List.map_congr_left
  intro x hx
  obtain ⟨zs, rfl⟩ := h
  rw [List.getD_eq_getElem?_getD, List.getD_eq_getElem?_getD, List.getElem?_append_left (hn x hx).2]
theorem foldlM_pre {α : Type} {f : CS → α → Option CS} (hf : ∀ c c' x, f c x = some c' → c.1 <+: c'.1) : ∀ (l : List α) (c c' : CS), l.foldlM f c = some c' → c.1 <+: c'.1
  | [], c, c', h => by cases h; exact List.prefix_refl _
  | x :: l, c, c', h => by
    rw [List.foldlM_cons] at h
    cases h1 : f c x with
    | none => rw [h1] at h; cases h
    | some c1 => rw [h1] at h; exact (hf _ _ _ h1).trans (foldlM_pre hf l c1 c' h)
theorem foldlM_some_mem {α : Type} {f : CS → α → Option CS} (hf : ∀ c c' x, f c x = some c' → c.1 <+: c'.1) : ∀ (l : List α) (c c' : CS), l.foldlM f c = some c' → ∀ x ∈ l, ∃ c1 c2, c.1 <+: c1.1 ∧ f c1 x = some c2 ∧ c2.1 <+: c'.1
  | y :: l, c, c', h, x, hx => by
    rw [List.foldlM_cons] at h
    cases h1 : f c y with
    | none => rw [h1] at h; cases h
    | some c1 =>
      rw [h1] at h
      rcases List.mem_cons.1 hx with rfl | hx
      · exact ⟨c, c1, List.prefix_refl _, h1, foldlM_pre hf l c1 c' h⟩
      · obtain ⟨c2, c3, h2, h3, h4⟩ := foldlM_some_mem hf l c1 c' h x hx
        exact ⟨c2, c3, (hf _ _ _ h1).trans h2, h3, h4⟩
theorem stepO_pre {n : Int} {size : Nat} {f : Int × List Int} {j K : Nat} {c c' : CS} {i : Nat} (h : stepO n size f j K c i = some c') : c.1 <+: c'.1 := (addO_pre h).1
theorem opL_pre {n : Int} {size K : Nat} {c c' : CS} {p : (Int × List Int) × Nat} (h : opL n size K c p = some c') : c.1 <+: c'.1 := foldlM_pre (fun _ _ _ h => stepO_pre h) _ _ _ h
theorem rndL_pre {n : Int} {size K : Nat} {ops : List (Int × List Int)} {c c' : CS} (h : rndL n size ops K c = some c') : c.1 <+: c'.1 := foldlM_pre (fun _ _ _ h => opL_pre h) _ _ _ h

/-! ### numbers and digits -/
theorem lowd_hor (K : Int) (hK : 1 ≤ K) : ∀ ns : List Int, (∀ x ∈ ns, 0 ≤ x ∧ x < K) → 0 ≤ hor K ns ∧ hor K ns < pw K ns.length ∧ lowd (hor K ns) K ns.length = ns := by
  intro ns
  rw [← List.reverse_reverse ns]
  generalize ns.reverse = rs
  induction rs with
  | nil => intro _; exact ⟨Int.le_refl 0, show (0 : Int) < 1 by decide, rfl⟩
  | cons x rs ih =>
    intro h
    simp only [List.reverse_cons] at h ⊢
    obtain ⟨h1, h2, h3⟩ := ih (fun y hy => h y (by simp at hy ⊢; exact .inl hy))
    have hx := h x (by simp)
    rw [hor_snoc, List.length_append, List.length_singleton, lowd_snoc, Int.add_comm, Int.add_mul_ediv_right _ _ (by omega), Int.ediv_eq_zero_of_lt hx.1 hx.2, Int.zero_add, Int.add_mul_emod_self_right, Int.emod_eq_of_lt hx.1 hx.2, h3]
    have h4 : 0 ≤ hor K rs.reverse * K := Int.mul_nonneg h1 (by omega)
    have h5 : (hor K rs.reverse + 1) * K ≤ pw K rs.reverse.length * K := Int.mul_le_mul_of_nonneg_right (by omega) (by omega)
    rw [Int.add_mul] at h5
    exact ⟨by omega, by simp only [pw]; omega, rfl⟩
/-- the compositions of functions that stand below b are there -/
def Closed (n : Int) (size : Nat) (ops : List (Int × List Int)) (b : Nat) (c : CS) : Prop :=
  b ≤ c.1.length ∧ ∀ f ∈ ops, ∀ ns : List Int, ns.length = f.1.toNat → (∀ x ∈ ns, 0 ≤ x ∧ x < (b : Int)) → applyT n f.2 (chosen c.1 ns) size ∈ c.1
theorem Closed.mono {n : Int} {size : Nat} {ops : List (Int × List Int)} {b : Nat} {c c' : CS} (h : Closed n size ops b c) (hp : c.1 <+: c'.1) : Closed n size ops b c' :=
  ⟨Nat.le_trans h.1 hp.length_le, fun f hf ns hl hn => by
    rw [chosen_pre hp (fun x hx => by have := hn x hx; have := h.1; omega)]
    exact hp.subset (h.2 f hf ns hl hn)⟩
theorem mem_range'_0 {i m : Nat} : i ∈ List.range' 0 m ↔ i < m := by simp [List.mem_range']
theorem rndL_closed {n : Int} {size : Nat} {ops : List (Int × List Int)} {c c' : CS} (h1 : 1 ≤ c.1.length) (h : rndL n size ops c.1.length c = some c') : Closed n size ops c.1.length c' := by
  have hp := rndL_pre h
  refine ⟨hp.length_le, fun f hf ns hl hn => ?_⟩
  obtain ⟨j, hj, hfj⟩ := List.mem_iff_getElem.1 hf
  have hmem : (f, j) ∈ ops.zipIdx := by
    rw [List.mem_iff_getElem?]
    exact ⟨j, by rw [List.getElem?_zipIdx, List.getElem?_eq_getElem hj, hfj]; simp⟩
  obtain ⟨c1, c2, h2, h3, h4⟩ := foldlM_some_mem (fun _ _ _ h => opL_pre h) _ _ _ h _ hmem
  obtain ⟨h5, h6, h7⟩ := lowd_hor (c.1.length : Int) (by omega) ns hn
  have hi : (hor (c.1.length : Int) ns).toNat ∈ List.range' 0 (many c.1.length f) := by
    rw [mem_range'_0, many, ← hl]; omega
  obtain ⟨c3, c4, h8, h9, h10⟩ := foldlM_some_mem (fun _ _ _ h => stepO_pre h) _ _ _ h3 _ hi
  have h11 := (addO_pre h9).2
  rw [show ((hor (c.1.length : Int) ns).toNat : Int) = hor (c.1.length : Int) ns by omega, ← hl, h7] at h11
  have hn2 : ∀ x ∈ ns, 0 ≤ x ∧ x.toNat < c.1.length := fun x hx => by have := hn x hx; omega
  rw [chosen_pre (h2.trans h8) hn2] at h11
  rw [chosen_pre hp hn2]
  exact (h10.trans h4).subset h11
theorem foldlM_eq {α : Type} {f g : CS → α → Option CS} {I : CS → Prop} (hI : ∀ c c' x, I c → f c x = some c' → I c') : ∀ (l : List α) (c : CS), I c → (∀ c, I c → ∀ x ∈ l, g c x = f c x) → l.foldlM g c = l.foldlM f c
  | [], c, hc, h => rfl
  | x :: l, c, hc, h => by
    rw [List.foldlM_cons, List.foldlM_cons, h c hc x (by simp)]
    cases h1 : f c x with
    | none => rfl
    | some c1 => exact foldlM_eq hI l c1 (hI _ _ _ hc h1) (fun c hc y hy => h c hc y (by simp [hy]))
theorem rndS_eq {n : Int} {size : Nat} {ops : List (Int × List Int)} {K b : Nat} {c : CS} (hb : b = 0 ∨ Closed n size ops b c) (hK : K ≤ c.1.length) : rndS n size ops K b c = rndL n size ops K c := by
  refine foldlM_eq (I := fun c' => c.1 <+: c'.1) (fun _ _ _ h h' => h.trans (opL_pre h')) _ _ (List.prefix_refl _) ?_
  intro c1 hc1 p hp
  refine foldlM_eq (I := fun c' => c.1 <+: c'.1) (fun _ _ _ h h' => h.trans (stepO_pre h')) _ _ hc1 ?_
  intro c2 hc2 i hi
  rw [stepS]
  split
  · rfl
  · rename_i hf
    rcases hb with rfl | hb
    · exact absurd (by simp [fresh]) hf
    · have hfm : p.1 ∈ ops := by
        obtain ⟨q, hq⟩ := List.mem_iff_getElem?.1 hp
        rw [List.getElem?_zipIdx] at hq
        cases h1 : ops[q]? with
        | none => rw [h1] at hq; cases hq
        | some y => rw [h1] at hq; cases hq; exact List.mem_of_getElem? h1
      have hn : ∀ x ∈ lowd (i : Int) (K : Int) p.1.1.toNat, 0 ≤ x ∧ x < (b : Int) := by
        intro x hx
        simp only [fresh, Bool.or_eq_true, List.any_eq_true, decide_eq_true_eq, beq_iff_eq, not_or, not_exists, not_and] at hf
        have h1 := hf.1 x hx
        have h2 : 0 ≤ x := by
          rcases Nat.eq_zero_or_pos K with rfl | hK
          · have hi2 := mem_range'_0.1 hi
            cases hk : p.1.1.toNat with
            | zero => rw [hk] at hx; cases hx
            | succ m => simp [many, hk, pw] at hi2
          · exact (lowd_range' (i : Int) (K : Int) (by omega) (by omega) _ x hx).1
        omega
      have hm := (hb.mono hc2).2 p.1 hfm _ (lowd_length _ _ _) hn
      rw [stepO, addO, if_pos hm]
/-- both ways of going on lead to the same -/
theorem clone_eq (n : Int) (size : Nat) (ops : List (Int × List Int)) : ∀ (f : Nat) (c : CS) (b : Nat), 1 ≤ b → Closed n size ops b c → cloneS n size ops f c b = cloneR n size ops f c (b : Int)
  | 0, c, b, h1, hb => rfl
  | f + 1, c, b, h1, hb => by
    rw [cloneS, cloneR]
    by_cases h : b < c.1.length
    · rw [if_pos h, if_pos (by omega), rndS_eq (.inr hb) (Nat.le_refl _)]
      cases h2 : rndL n size ops c.1.length c with
      | none => rfl
      | some c' => exact clone_eq n size ops f c' c.1.length (by omega) (rndL_closed (by omega) h2)
    · rw [if_neg h, if_neg (by omega)]
theorem clone_eq0 (n : Int) (size : Nat) (ops : List (Int × List Int)) (f : Nat) (c : CS) (h1 : 1 ≤ c.1.length) : cloneS n size ops (f + 1) c 0 = cloneR n size ops (f + 1) c (-1) := by
  rw [cloneS, cloneR, if_pos (by omega), if_pos (by omega), rndS_eq (.inl rfl) (Nat.le_refl _)]
  cases h2 : rndL n size ops c.1.length c with
  | none => rfl
  | some c' => exact clone_eq n size ops f c' c.1.length h1 (rndL_closed h1 h2)
end Go.Proofs.Ytejeeokjjbiadaa
