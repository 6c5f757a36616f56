/- Lists of rows in order without repetition: what spec.l8Put and impl.different make, in plain terms. No program in sight; no conditions but those that are told. -/
import Derived.Test.YtiifdhdhjioefaaHas
import Derived.Test.YtiifdhdhjioefaaSrt
namespace Go.Proofs.Ytiifdhdhjioefaa
open Go Go.Proofs
set_option linter.unusedVariables false
theorem less_cmp {a b : List Int} (h : a.length = b.length) : less a b = true ↔ cmp a b < 0 := by
  have := cmp_less h
  cases e : less a b with
  | true => rw [e] at this; simp at this; simp; omega
  | false => rw [e] at this; simp at this; simp; omega
def Str (l : List (List Int)) : Prop := l.Pairwise fun a b => cmp a b < 0
theorem cmp_irrefl {a : List Int} (h : cmp a a < 0) : False := by rw [cmp_refl] at h; omega
theorem str_ext : ∀ {a b : List (List Int)}, Str a → Str b → (∀ t, t ∈ a ↔ t ∈ b) → a = b
  | [], [], _, _, _ => rfl
  | [], y :: b, _, _, h => by have := (h y).2 (by simp); simp at this
  | x :: a, [], _, _, h => by have := (h x).1 (by simp); simp at this
  | x :: a, y :: b, ha, hb, h => by
    rw [Str, List.pairwise_cons] at ha hb
    have hxy : x = y := by
      rcases List.mem_cons.1 ((h x).1 (by simp)) with e | e
      · exact e
      · rcases List.mem_cons.1 ((h y).2 (by simp)) with e2 | e2
        · exact e2.symm
        · exact (cmp_neg (hb.1 x e) (ha.1 y e2)).elim
    subst hxy
    refine congrArg _ (str_ext ha.2 hb.2 fun t => ⟨fun ht => ?_, fun ht => ?_⟩)
    · rcases List.mem_cons.1 ((h t).1 (by simp [ht])) with e | e
      · subst e; exact (cmp_irrefl (ha.1 t ht)).elim
      · exact e
    · rcases List.mem_cons.1 ((h t).2 (by simp [ht])) with e | e
      · subst e; exact (cmp_irrefl (hb.1 t ht)).elim
      · exact e
def putL (l : List (List Int)) (t : List Int) : List (List Int) := if t ∈ l then l else l.take (placeOf l t) ++ t :: l.drop (placeOf l t)
theorem take_place (l : List (List Int)) (t : List Int) : l.take (placeOf l t) = l.takeWhile (fun u => less u t) ∧ l.drop (placeOf l t) = l.dropWhile (fun u => less u t) := by
  have h := List.takeWhile_append_dropWhile (p := fun u => less u t) (l := l)
  generalize hn : placeOf l t = n
  rw [placeOf] at hn
  generalize List.takeWhile (fun u => less u t) l = x at h hn
  generalize List.dropWhile (fun u => less u t) l = y at h
  subst h; subst hn
  exact ⟨List.take_left' rfl, List.drop_left' rfl⟩
theorem putL_mem (l : List (List Int)) (t u : List Int) : u ∈ putL l t ↔ u = t ∨ u ∈ l := by
  rw [putL]
  split
  · rename_i h; exact ⟨.inr, fun k => k.elim (fun e => e ▸ h) id⟩
  · have h : u ∈ l ↔ u ∈ l.take (placeOf l t) ∨ u ∈ l.drop (placeOf l t) := by
      conv => lhs; rw [← List.take_append_drop (placeOf l t) l]
      rw [List.mem_append]
    rw [h, List.mem_append, List.mem_cons]
    constructor
    · rintro (h | h | h)
      · exact .inr (.inl h)
      · exact .inl h
      · exact .inr (.inr h)
    · rintro (h | h | h)
      · exact .inr (.inl h)
      · exact .inl h
      · exact .inr (.inr h)
theorem head_drop {p : List Int → Bool} {l : List (List Int)} {b : List Int} {r : List (List Int)} (h : l.dropWhile p = b :: r) : p b = false := by
  induction l with
  | nil => simp at h
  | cons x l ih =>
    rw [List.dropWhile_cons] at h
    split at h
    · exact ih h
    · rename_i hx
      cases h
      simpa using hx
theorem takeWhile_mem {p : List Int → Bool} {l : List (List Int)} {b : List Int} (h : b ∈ l.takeWhile p) : p b = true := by
  induction l with
  | nil => simp at h
  | cons x l ih =>
    rw [List.takeWhile_cons] at h
    split at h
    · rename_i hx
      rcases List.mem_cons.1 h with rfl | h
      · exact hx
      · exact ih h
    · cases h
theorem putL_str {l : List (List Int)} {t : List Int} {k : Nat} (hl : Str l) (hu : ∀ u ∈ l, u.length = k) (ht : t.length = k) : Str (putL l t) := by
  rw [putL]
  split
  · exact hl
  · rename_i hn
    obtain ⟨e1, e2⟩ := take_place l t
    rw [e1, e2]
    have hsplit := List.takeWhile_append_dropWhile (p := fun u => less u t) (l := l)
    have hl2 := hl
    rw [Str, ← hsplit, List.pairwise_append] at hl2
    have hd : ∀ b ∈ l.dropWhile (fun u => less u t), b ∈ l := fun b hb => (List.dropWhile_sublist _).subset hb
    have htw : ∀ b ∈ l.takeWhile (fun u => less u t), b ∈ l ∧ cmp b t < 0 := fun b hb => by
      have h1 := (List.takeWhile_sublist _).subset hb
      exact ⟨h1, (less_cmp (by rw [hu b h1, ht])).1 (takeWhile_mem (p := fun u => less u t) hb)⟩
    have hlow : ∀ b ∈ l.dropWhile (fun u => less u t), cmp t b < 0 := by
      cases hr : l.dropWhile (fun u => less u t) with
      | nil => intro b hb; cases hb
      | cons b0 r =>
        have h0 : b0 ∈ l := hd b0 (by rw [hr]; simp)
        have h1 : ¬ cmp b0 t < 0 := fun h => by
          have := head_drop hr
          rw [(less_cmp (by rw [hu b0 h0, ht])).2 h] at this; cases this
        have h2 : cmp t b0 < 0 := Decidable.byContradiction fun h => hn (by rw [cmp_eq h h1]; exact h0)
        intro b hb
        rcases List.mem_cons.1 hb with rfl | hb
        · exact h2
        · have h3 := hl2.2.1
          rw [hr, List.pairwise_cons] at h3
          exact cmp_trans h2 (h3.1 b hb)
    rw [Str, List.pairwise_append]
    refine ⟨hl2.1, List.pairwise_cons.2 ⟨hlow, hl2.2.1⟩, fun a ha b hb => ?_⟩
    rcases List.mem_cons.1 hb with rfl | hb
    · exact (htw a ha).2
    · exact hl2.2.2 a ha b hb
theorem str_sorted {l : List (List Int)} {k : Nat} (hl : Str l) (hu : ∀ u ∈ l, u.length = k) : Sorted l := fun i j hi hj => by
  rw [Str, List.pairwise_iff_getElem] at hl
  exact (less_cmp (by rw [hu _ (List.getElem_mem _), hu _ (List.getElem_mem _)])).2 (hl i j (by omega) hj hi)
/-- the set of a list of rows, as spec.l8Put builds it -/
def putF (ts : List (List Int)) : List (List Int) := ts.foldl putL []
theorem foldl_put {k : Nat} : ∀ (ts l : List (List Int)), Str l → (∀ u ∈ l, u.length = k) → (∀ u ∈ ts, u.length = k) → Str (ts.foldl putL l) ∧ ∀ u, u ∈ ts.foldl putL l ↔ u ∈ l ∨ u ∈ ts
  | [], l, hl, hu, ht => ⟨hl, fun u => by simp⟩
  | t :: ts, l, hl, hu, ht => by
    have h1 : ∀ u ∈ putL l t, u.length = k := fun u h => by
      rcases (putL_mem l t u).1 h with rfl | h
      · exact ht _ (by simp)
      · exact hu u h
    obtain ⟨h2, h3⟩ := foldl_put ts (putL l t) (putL_str hl hu (ht t (by simp))) h1 (fun u h => ht u (by simp [h]))
    refine ⟨h2, fun u => (h3 u).trans ?_⟩
    rw [putL_mem, List.mem_cons]
    constructor
    · rintro ((h | h) | h)
      · exact .inr (.inl h)
      · exact .inl h
      · exact .inr (.inr h)
    · rintro (h | h | h)
      · exact .inl (.inr h)
      · exact .inl (.inl h)
      · exact .inr h
theorem putF_str {k : Nat} {ts : List (List Int)} (ht : ∀ u ∈ ts, u.length = k) : Str (putF ts) ∧ ∀ u, u ∈ putF ts ↔ u ∈ ts := by
  obtain ⟨h1, h2⟩ := foldl_put (k := k) ts [] .nil (fun u h => by cases h) ht
  exact ⟨h1, fun u => (h2 u).trans (by simp)⟩
theorem putL_le (l : List (List Int)) (t : List Int) : (putL l t).length ≤ l.length + 1 := by
  rw [putL]; split
  · omega
  · simp; omega
theorem foldl_put_le : ∀ (ts l : List (List Int)), (ts.foldl putL l).length ≤ l.length + ts.length
  | [], l => by simp
  | t :: ts, l => by
    have h1 := foldl_put_le ts (putL l t)
    have h2 := putL_le l t
    simp only [List.foldl_cons, List.length_cons] at *; omega
theorem putF_le (ts : List (List Int)) : (putF ts).length ≤ ts.length := by have := foldl_put_le ts []; simpa [putF] using this
/-! ### impl.different -/
section
variable {β : Type} [Inhabited β]
/-- whether the element at a place differs from the one before it -/
def difAt (g : β → List Int) (ps : List β) (i : Nat) : Bool := decide (i = 0) || !decide (g (ps.getD (i - 1) default) = g (ps.getD i default))
def difN (g : β → List Int) (ps : List β) (n : Nat) : List β := ((List.range n).filter (difAt g ps)).map fun i => ps.getD i default
theorem difN_succ (g : β → List Int) (ps : List β) (n : Nat) : difN g ps (n + 1) = difN g ps n ++ (if difAt g ps n = true then [ps.getD n default] else []) := by
  rw [difN, difN, List.range_succ, List.filter_append, List.map_append]
  congr 1
  rw [List.filter_cons]
  split <;> simp
theorem difN_sub (g : β → List Int) (ps : List β) : (difN g ps ps.length).Sublist ps := by
  have h1 : ((List.range ps.length).map fun i => ps.getD i default) = ps := by
    apply List.ext_getElem
    · simp
    · intro i h1 h2
      simp [List.getD_eq_getElem?_getD, List.getElem?_eq_getElem h2]
  have h2 : (difN g ps ps.length).Sublist ((List.range ps.length).map fun i => ps.getD i default) := (List.filter_sublist).map _
  rw [h1] at h2; exact h2
end
theorem dif_str {ys : List (List Int)} {n : Nat} (hn : n ≤ ys.length) (hs : SegS leL ys 0 n) : Str (difN id ys n) := by
  rw [Str, difN, List.pairwise_map]
  refine List.Pairwise.imp_of_mem ?_ ((List.pairwise_lt_range (n := n)).filter _)
  intro i j hi hj hij
  obtain ⟨_, _⟩ := List.mem_filter.1 hi
  obtain ⟨h1, h2⟩ := List.mem_filter.1 hj
  have hjn := List.mem_range.1 h1
  have h3 : leL (at' ys i) (at' ys (j - 1)) := by
    rcases Nat.lt_or_ge i (j - 1) with h | h
    · exact hs i (j - 1) (by omega) h (by omega)
    · have e : i = j - 1 := by omega
      rw [e, leL, ltL_eq, cmp_refl]; rfl
  have h4 : leL (at' ys (j - 1)) (at' ys j) := hs (j - 1) j (by omega) (by omega) hjn
  rw [difAt, decide_eq_false (by omega), Bool.false_or] at h2
  simp only [id, Bool.not_eq_true', decide_eq_false_iff_not] at h2
  have h5 : cmp (at' ys (j - 1)) (at' ys j) < 0 := by
    apply Decidable.byContradiction
    intro h
    rw [leL, ltL_eq, decide_eq_false_iff_not] at h4
    exact h2 (cmp_eq h h4)
  have h6 : leL (at' ys i) (at' ys j) := leL_trans _ _ _ h3 h4
  show cmp (at' ys i) (at' ys j) < 0
  apply Decidable.byContradiction
  intro h
  rw [leL, ltL_eq, decide_eq_false_iff_not] at h6 h3
  have e := cmp_eq h h6
  rw [e] at h3
  exact h3 h5
theorem dif_mem {ys : List (List Int)} {n : Nat} (hn : n ≤ ys.length) : ∀ (i : Nat), i < n → at' ys i ∈ difN id ys n
  | 0, hi => List.mem_map.2 ⟨0, List.mem_filter.2 ⟨List.mem_range.2 hi, rfl⟩, rfl⟩
  | i + 1, hi => by
    cases h : difAt id ys (i + 1) with
    | true => exact List.mem_map.2 ⟨i + 1, List.mem_filter.2 ⟨List.mem_range.2 hi, h⟩, rfl⟩
    | false =>
      rw [difAt, decide_eq_false (by omega), Bool.false_or] at h
      simp only [id, Bool.not_eq_false', decide_eq_true_eq, Nat.add_sub_cancel] at h
      have h1 : at' ys i = at' ys (i + 1) := h
      rw [← h1]; exact dif_mem hn i (by omega)
/-- sorting and leaving out repetitions gives the same set -/
theorem dif_put {k : Nat} {ts ys : List (List Int)} (ht : ∀ u ∈ ts, u.length = k) (hm : Mrg leL 0 ts.length ts ys) : difN id ys ys.length = putF ts := by
  have hl := hm.mv.len
  obtain ⟨h1, h2⟩ := putF_str ht
  refine str_ext (dif_str (Nat.le_refl _) (by rw [hl]; exact hm.seg)) h1 fun u => ?_
  rw [h2, hm.mv.perm.mem_iff]
  constructor
  · intro h
    exact (difN_sub id ys).subset h
  · intro h
    obtain ⟨i, hi, rfl⟩ := List.getElem_of_mem h
    rw [← at_eq hi]; exact dif_mem (Nat.le_refl _) i hi
theorem dif_map {ps : List (Sv × List Int)} : ∀ n, n ≤ ps.length → (difN Prod.snd ps n).map Prod.snd = difN id (ps.map Prod.snd) n
  | 0, _ => rfl
  | n + 1, h => by
    have g1 : ∀ i, i < ps.length → (ps.getD i default).2 = (ps.map Prod.snd).getD i default := fun i hi => by
      simp [List.getD_eq_getElem?_getD, List.getElem?_eq_getElem hi]
    have e : difAt Prod.snd ps n = difAt id (ps.map Prod.snd) n := by
      rw [difAt, difAt, g1 n (by omega), g1 (n - 1) (by omega)]; rfl
    rw [difN_succ, difN_succ, List.map_append, dif_map n (by omega), e]
    split
    · rw [List.map_cons, List.map_nil, g1 n (by omega)]
    · rfl
end Go.Proofs.Ytiifdhdhjioefaa
