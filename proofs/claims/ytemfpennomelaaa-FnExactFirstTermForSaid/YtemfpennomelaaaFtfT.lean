/- The reference's terms of tuples: spec.l8Terms. Proved for this program; conditions: a valid algebra, the list of all generated tuples. -/
import Derived.Test.YtemfpennomelaaaFtfF
import Derived.Test.YtemfpennomelaaaFtfS
import Derived.Test.YtemfpennomelaaaClsC
namespace Go.Proofs.Ytemfpennomelaaa
open Go Go.Proofs
set_option linter.unusedVariables false
theorem place_ix {X : List (List Int)} (hs : Sorted X) {i : Nat} (hi : i < X.length) : placeOf X X[i] = i := by
  refine placeOf_eq (Nat.le_of_lt hi) (fun j hj h => hs j i h hi) (fun j hj h => ?_)
  rcases Nat.lt_or_eq_of_le h with h1 | h1
  · have h2 := hs i j h1 hj
    cases h3 : less X[j] X[i] with
    | false => rfl
    | true => have := less_trans h2 h3; rw [less_irrefl] at this; cases this
  · subst h1; exact less_irrefl _
theorem place_in {X : List (List Int)} (hs : Sorted X) {t : List Int} (h : t ∈ X) : ∃ hp : placeOf X t < X.length, X[placeOf X t] = t := by
  obtain ⟨i, hi, rfl⟩ := List.getElem_of_mem h
  have e := place_ix hs hi
  exact ⟨by rw [e]; exact hi, by simp only [e]⟩
/-- the beginning: the generators up to m have their own terms -/
structure Dg (n : Int) (os : List (Int × List Int)) (k : Nat) (G X : List (List Int)) (m : Nat) (out : List (List Int)) : Prop where
  len : out.length = X.length
  snd : SndO n os k G X out
  gen : GenO G X out m
  one : ∀ p, out.getD p [] ≠ [] → ∃ i, i < m ∧ out.getD p [] = [(i : Int)]
theorem tle_one {a b : Nat} (h : a ≤ b) : tle [(a : Int)] [(b : Int)] := by
  rcases Nat.lt_or_eq_of_le h with h1 | h1
  · exact .inr (tlt_iff.2 (.inr ⟨rfl, by simp [less]; omega⟩))
  · subst h1; exact .inl rfl
theorem getD_rep {m p : Nat} : (List.replicate m ([] : List Int)).getD p [] = [] := by
  rw [List.getD_eq_getElem?_getD, List.getElem?_replicate]
  split <;> rfl
theorem Dg.nil (n : Int) (os : List (Int × List Int)) (k : Nat) (G X : List (List Int)) : Dg n os k G X 0 (List.replicate X.length []) :=
  ⟨by simp, fun i h hne => absurd getD_rep hne, fun i h hm => absurd hm (Nat.not_lt_zero _), fun p hne => absurd getD_rep hne⟩
theorem Dg.have {n : Int} {os : List (Int × List Int)} {k : Nat} {G X out : List (List Int)} {m : Nat} (h : Dg n os k G X m out) (hn : X.Nodup) (hm : m < G.length) {p : Nat} (hp : p < X.length) (e : X[p] = G[m]) (hne : out.getD p [] ≠ []) : Dg n os k G X (m + 1) out :=
  ⟨h.len, h.snd, fun i hi hm1 => by
    rcases Nat.lt_or_eq_of_le (Nat.le_of_lt_succ hm1) with h1 | h1
    · exact h.gen i hi h1
    · subst h1
      rw [← e, bO_at hn hp]
      obtain ⟨j, hj, e2⟩ := h.one p hne
      exact ⟨hne, by rw [e2]; exact tle_one (Nat.le_of_lt hj)⟩, fun q hq => by
    obtain ⟨j, hj, e2⟩ := h.one q hq
    exact ⟨j, by omega, e2⟩⟩
theorem Dg.put {n : Int} {os : List (Int × List Int)} {k : Nat} {G X out : List (List Int)} {m : Nat} (h : Dg n os k G X m out) (hn : X.Nodup) (hm : m < G.length) {p : Nat} (hp : p < X.length) (e : X[p] = G[m]) (hne : out.getD p [] = []) : Dg n os k G X (m + 1) (out.set p [(m : Int)]) := by
  have hb : out.set p [(m : Int)] = bet out p [(m : Int)] := by rw [bet, if_pos (.inl hne)]
  have hpo : p < out.length := by rw [h.len]; exact hp
  rw [hb]
  have hmade : Made n os k G [(m : Int)] X[p] := by rw [e]; exact .gen hm
  have himp := bet_imp hpo hmade.ne
  refine ⟨(bet_len _ _ _).trans h.len, h.snd.bet h.len hp hmade (by simp), fun i hi hm1 => ?_, fun q hq => ?_⟩
  · rcases Nat.lt_or_eq_of_le (Nat.le_of_lt_succ hm1) with h1 | h1
    · exact (h.gen.imp himp) i hi h1
    · subst h1
      rw [← e, bO_at hn hp]
      exact bet_at hpo (by simp)
  · by_cases e2 : q = p
    · subst e2
      refine ⟨m, by omega, ?_⟩
      rcases bet_eq (t := [(m : Int)]) hpo with h1 | ⟨_, h2, _⟩
      · exact h1
      · exact absurd hne h2
    · rw [bet_ne e2] at hq ⊢
      obtain ⟨j, hj, e3⟩ := h.one q hq
      exact ⟨j, by omega, e3⟩
theorem SndO.small {n : Int} {os : List (Int × List Int)} {k : Nat} {G X out : List (List Int)} (h : SndO n os k G X out) (hl : out.length = X.length) : ∀ w ∈ out, w.length ≤ 4611686018427387904 := fun w hw => by
  obtain ⟨i, hi, rfl⟩ := List.getElem_of_mem hw
  have e : out.getD i [] = out[i] := by rw [List.getD_eq_getElem?_getD, List.getElem?_eq_getElem hi]; rfl
  by_cases e0 : out[i] = []
  · rw [e0]; exact Nat.zero_le _
  · have := (h i (by omega) (by rw [e]; exact e0)).2
    rw [e] at this; omega
/-- then the operations without arguments, up to q -/
structure Dz (n : Int) (os : List (Int × List Int)) (k : Nat) (G X : List (List Int)) (q : Nat) (out : List (List Int)) : Prop where
  len : out.length = X.length
  snd : SndO n os k G X out
  gen : GenO G X out G.length
  zero : ∀ j (hj : j < os.length), j < q → os[j].1 = 0 → CovO n os k X out j os[j].2 []
theorem Dz.pass {n : Int} {os : List (Int × List Int)} {k : Nat} {G X out : List (List Int)} {q : Nat} (h : Dz n os k G X q out) (hq : q < os.length) (h0 : ¬ os[q].1 = 0) : Dz n os k G X (q + 1) out :=
  ⟨h.len, h.snd, h.gen, fun j hj h1 h2 => by
    rcases Nat.lt_or_eq_of_le (Nat.le_of_lt_succ h1) with h3 | h3
    · exact h.zero j hj h3 h2
    · subst h3; exact absurd h2 h0⟩
theorem Dz.put {n : Int} {os : List (Int × List Int)} {k : Nat} {G X out : List (List Int)} {q : Nat} (h : Dz n os k G X q out) (hn : X.Nodup) (hq : q < os.length) (h0 : os[q].1 = 0) {p : Nat} (hp : p < X.length) (e : X[p] = applyT n os[q].2 [] k) : Dz n os k G X (q + 1) (bet out p [-1 - (q : Int)]) := by
  have hpo : p < out.length := by rw [h.len]; exact hp
  have hmade : Made n os k G [-1 - (q : Int)] X[p] := by
    rw [e]; exact Made.op (us := []) (ts := []) hq (by rw [h0]; rfl) rfl (fun i h1 => by cases h1)
  have himp := bet_imp hpo hmade.ne
  refine ⟨(bet_len _ _ _).trans h.len, h.snd.bet h.len hp hmade (by simp), h.gen.imp himp, fun j hj h1 h2 => ?_⟩
  rcases Nat.lt_or_eq_of_le (Nat.le_of_lt_succ h1) with h3 | h3
  · exact (h.zero j hj h3 h2).imp himp (fun t ht => by cases ht)
  · subst h3
    intro _
    rw [← e, bO_at hn hp]
    exact bet_at hpo (by simp)
theorem Dz.start {n : Int} {os : List (Int × List Int)} {k : Nat} {G X out : List (List Int)} (h : Dz n os k G X os.length out) (hops : ∀ f ∈ os, opB n f.1 f.2 = true) : Dj n os k G X [] out :=
  ⟨h.len, h.snd, h.gen, fun j hj h0 => h.zero j hj hj h0, (fun x hx => by cases hx), (fun x hx => by cases hx), (fun j hj h0 ts hl ht => by
    cases ts with
    | nil => simp at hl; omega
    | cons u ts =>
      obtain ⟨i, hi, h1, _⟩ := ht u (by simp)
      cases h1), List.nodup_nil⟩
/-- the marks say what is on the line -/
def DoneB (X : List (List Int)) (line : List Int) (D : List Bool) : Prop := D.length = X.length ∧ ∀ i (h : i < D.length), D[i] = true ↔ (i : Int) ∈ line
theorem DoneB.nil (X : List (List Int)) : DoneB X [] (List.replicate X.length false) := ⟨by simp, fun i h => by simp⟩
theorem DoneB.set {X : List (List Int)} {line : List Int} {D : List Bool} (h : DoneB X line D) (p : Nat) : DoneB X (line ++ [(p : Int)]) (D.set p true) := ⟨by rw [List.length_set]; exact h.1, fun i hi => by
  rw [List.length_set] at hi
  rw [List.getElem_set]
  by_cases e : p = i
  · subst e; simp
  · rw [if_neg e, h.2 i hi]
    simp only [List.mem_append, List.mem_singleton]
    constructor
    · exact .inl
    · rintro (h1 | h1)
      · exact h1
      · omega⟩
theorem line_bound : ∀ {m : Nat} {line : List Int}, line.Nodup → (∀ x ∈ line, 0 ≤ x ∧ x.toNat < m) → line.length ≤ m := fun {m line} hn hm => by
  have h1 : (line.map fun x => [x]).length ≤ ((List.range m).map fun i : Nat => [(i : Int)]).length := nodup_le (by
    rw [List.Nodup, List.pairwise_map]
    exact hn.imp fun {a b} h e => h (by simpa using e)) fun t ht => by
      obtain ⟨x, hx, rfl⟩ := List.mem_map.1 ht
      obtain ⟨h2, h3⟩ := hm x hx
      exact List.mem_map.2 ⟨x.toNat, List.mem_range.2 h3, by simp [Int.toNat_of_nonneg h2]⟩
  simpa using h1
theorem Dj.line_le {n : Int} {os : List (Int × List Int)} {k : Nat} {G X : List (List Int)} {line : List Int} {out : List (List Int)} (h : Dj n os k G X line out) : line.length ≤ X.length :=
  line_bound h.nodup fun x hx => by obtain ⟨h1, h2, _⟩ := h.mem x hx; exact ⟨h1, h2⟩
/-- the least of the places below i that are not done, or -1 -/
def SelI (line : List Int) (out : List (List Int)) (i : Nat) (a : Int) : Prop :=
  (a = -1 ∧ ∀ p, p < i → (p : Int) ∉ line → out.getD p [] = []) ∨ ∃ q : Nat, a = q ∧ q < i ∧ (q : Int) ∉ line ∧ out.getD q [] ≠ [] ∧ ∀ p, p < i → (p : Int) ∉ line → out.getD p [] ≠ [] → tle (out.getD q []) (out.getD p [])
theorem SelI.skip {line : List Int} {out : List (List Int)} {i : Nat} {a : Int} (h : SelI line out i a) (hs : (i : Int) ∈ line ∨ out.getD i [] = []) : SelI line out (i + 1) a := by
  rcases h with ⟨rfl, h⟩ | ⟨q, rfl, h1, h2, h3, h4⟩
  · refine .inl ⟨rfl, fun p hp hn => ?_⟩
    rcases Nat.lt_or_eq_of_le (Nat.le_of_lt_succ hp) with h5 | h5
    · exact h p h5 hn
    · subst h5
      rcases hs with hs | hs
      · exact absurd hs hn
      · exact hs
  · refine .inr ⟨q, rfl, by omega, h2, h3, fun p hp hn hne => ?_⟩
    rcases Nat.lt_or_eq_of_le (Nat.le_of_lt_succ hp) with h5 | h5
    · exact h4 p h5 hn hne
    · subst h5
      rcases hs with hs | hs
      · exact absurd hs hn
      · exact absurd hs hne
theorem SelI.first {line : List Int} {out : List (List Int)} {i : Nat} (h : ∀ p, p < i → (p : Int) ∉ line → out.getD p [] = []) (hn : (i : Int) ∉ line) (hne : out.getD i [] ≠ []) : SelI line out (i + 1) (i : Int) :=
  .inr ⟨i, rfl, by omega, hn, hne, fun p hp hn2 hne2 => by
    rcases Nat.lt_or_eq_of_le (Nat.le_of_lt_succ hp) with h5 | h5
    · exact absurd (h p h5 hn2) hne2
    · subst h5; exact .inl rfl⟩
theorem SelI.take {line : List Int} {out : List (List Int)} {i q : Nat} (h : ∀ p, p < i → (p : Int) ∉ line → out.getD p [] ≠ [] → tle (out.getD q []) (out.getD p [])) (hn : (i : Int) ∉ line) (hne : out.getD i [] ≠ []) (hl : tlt (out.getD i []) (out.getD q []) = true) : SelI line out (i + 1) (i : Int) :=
  .inr ⟨i, rfl, by omega, hn, hne, fun p hp hn2 hne2 => by
    rcases Nat.lt_or_eq_of_le (Nat.le_of_lt_succ hp) with h5 | h5
    · exact tle_trans (.inr hl) (h p h5 hn2 hne2)
    · subst h5; exact .inl rfl⟩
theorem SelI.stay {line : List Int} {out : List (List Int)} {i q : Nat} (hq : q < i) (h2 : (q : Int) ∉ line) (h3 : out.getD q [] ≠ []) (h : ∀ p, p < i → (p : Int) ∉ line → out.getD p [] ≠ [] → tle (out.getD q []) (out.getD p [])) (hl : tlt (out.getD i []) (out.getD q []) = false) : SelI line out (i + 1) (q : Int) :=
  .inr ⟨q, rfl, by omega, h2, h3, fun p hp hn2 hne2 => by
    rcases Nat.lt_or_eq_of_le (Nat.le_of_lt_succ hp) with h5 | h5
    · exact h p h5 hn2 hne2
    · subst h5; exact tle_of_not hl⟩
theorem sel_case (b : Bool) (m : Nat) : b = true ∨ (b = false ∧ m = 0) ∨ (b = false ∧ 0 < m) := by cases b <;> simp; omega
theorem SndO.sixty {n : Int} {os : List (Int × List Int)} {k : Nat} {G X out : List (List Int)} (h : SndO n os k G X out) (hl : out.length = X.length) : ∀ w ∈ out, w.length ≤ 60 := fun w hw => by
  obtain ⟨i, hi, rfl⟩ := List.getElem_of_mem hw
  have e : out.getD i [] = out[i] := by rw [List.getD_eq_getElem?_getD, List.getElem?_eq_getElem hi]; rfl
  by_cases e0 : out[i] = []
  · rw [e0]; exact Nat.zero_le _
  · have := (h i (by omega) (by rw [e]; exact e0)).2
    rwa [e] at this
/-- the term of an operation over the first tuples -/
def tlT (X out : List (List Int)) (j : Nat) (T : List (List Int)) (q : Nat) : List Int := (-1 - (j : Int)) :: ((T.take q).map (bO X out)).flatten
theorem tlT_succ {X out : List (List Int)} {j : Nat} {T : List (List Int)} {q p : Nat} (hn : X.Nodup) (hq : q < T.length) (hp : p < X.length) (e : T[q] = X[p]) (hl : out.length = X.length) : tlT X out j T (q + 1) = tlT X out j T q ++ out[p]'(by omega) := by
  rw [tlT, tlT, List.take_add_one, List.getElem?_eq_getElem hq, List.map_append, List.flatten_append, e]
  have h1 : bO X out X[p] = out[p]'(by omega) := by rw [bO_at hn hp, List.getD_eq_getElem?_getD, List.getElem?_eq_getElem (by omega)]; rfl
  simp [h1]
theorem term_at {X : List (List Int)} {line N : List Int} {T : List (List Int)} {q : Nat} (hT : T = chosen (chosen X line) N) (hq : q < N.length) (hqT : q < T.length) (hx : (N[q]).toNat < line.length) (hy0 : 0 ≤ line[(N[q]).toNat]) (hy1 : (line[(N[q]).toNat]).toNat < X.length) : T[q] = X[(line[(N[q]).toNat]).toNat] := by
  subst hT
  have h1 := chosen_get (X := X) hx hy0 hy1
  simp only [chosen, List.getElem_map] at h1 ⊢
  exact h1
theorem tlT_all {X out : List (List Int)} {j : Nat} {T : List (List Int)} {q : Nat} (h : T.length ≤ q) : tlT X out j T q = (-1 - (j : Int)) :: (T.map (bO X out)).flatten := by rw [tlT, List.take_of_length_le h]
theorem tlT_le (X out : List (List Int)) (j : Nat) (T : List (List Int)) (q : Nat) : (tlT X out j T q).length ≤ 1 + (T.map (bO X out)).flatten.length := by
  have h1 : (T.map (bO X out)).flatten = ((T.take q).map (bO X out)).flatten ++ ((T.drop q).map (bO X out)).flatten := by rw [← List.flatten_append, ← List.map_append, List.take_append_drop]
  rw [h1, tlT, List.length_cons, List.length_append]
  omega
theorem OnLine.mono {X : List (List Int)} {line : List Int} {p : Int} {u : List Int} (h : OnLine X line u) : OnLine X (line ++ [p]) u := by
  obtain ⟨i, hi, h1, e⟩ := h
  exact ⟨i, hi, List.mem_append.2 (.inl h1), e⟩
theorem num_on {X : List (List Int)} {line N : List Int} (hmem : ∀ x ∈ line, 0 ≤ x ∧ x.toNat < X.length) (hlw : ∀ x ∈ N, 0 ≤ x ∧ x.toNat < line.length) : ∀ u ∈ chosen (chosen X line) N, OnLine X line u := fun u hu => by
  obtain ⟨x, hx, rfl⟩ := List.mem_map.1 hu
  obtain ⟨h1, h2⟩ := hlw x hx
  refine on_line hmem ?_
  rw [List.getD_eq_getElem?_getD, List.getElem?_eq_getElem (by rw [chosen_len]; exact h2)]
  exact List.getElem_mem _
theorem num_new {X : List (List Int)} {line N : List Int} {p0 : Nat} (hp : p0 < X.length) (hm : (line.length : Int) ∈ N) : X[p0] ∈ chosen (chosen X (line ++ [(p0 : Int)])) N := by
  refine List.mem_map.2 ⟨_, hm, ?_⟩
  rw [Int.toNat_natCast, chosen_get (i := line.length) (by simp) (by simp) (by simpa using hp)]
  simp
/-- the numbers up to i that hold the new place are covered -/
def NumC (n : Int) (os : List (Int × List Int)) (k : Nat) (X : List (List Int)) (line : List Int) (p0 : Nat) (j : Nat) (f : Int × List Int) (i : Nat) (out : List (List Int)) : Prop := ∀ q : Nat, q < i → (line.length : Int) ∈ lowd (q : Int) ((line.length : Int) + 1) f.1.toNat → CovO n os k X out j f.2 (chosen (chosen X (line ++ [(p0 : Int)])) (lowd (q : Int) ((line.length : Int) + 1) f.1.toNat))
set_option maxRecDepth 10000 in
set_option maxHeartbeats 8000000 in
theorem l8Terms_c (n : Int) (os : List (Int × List Int)) (k : Nat) (G X : List (List Int)) (ha : algB n os = true) (hk : k ≤ 1000000) (hG : ∀ t ∈ G, TupOk n k t) (hg : G.length ≤ 1000) (hS : Str X) (hX : ∀ t, t ∈ X ↔ Clo n os k G t) (hXl : X.length ≤ 300) :
    Spec Try.prog 24 [vagg [vint n, vsl 2 (fun y : Int × (List Int) => [vint y.1, vsl 1 (fun x : Int => [vint x]) y.2]) os], vint (k : Int), vsl 1 (fun t : List Int => [vsl 1 (fun x : Int => [vint x]) t]) G, vsl 1 (fun t : List Int => [vsl 1 (fun x : Int => [vint x]) t]) X] [] (fun r S' => ∃ (s : Sv) (O : List (List Int)), r = vlit (vsv s) ∧ S' = [hsl tNl (vsv s) O] ∧ O.length = X.length ∧ BestT n os k G X (bO X O)) := by
  obtain ⟨hn1, hn8, ho4, hops⟩ := algB_at ha
  have hn := str_nodup hS
  have hop3 : ∀ f ∈ os, f.1 ≤ 3 := fun f hf => by
    have h := hops f hf
    simp only [opB, Bool.and_eq_true, decide_eq_true_eq] at h
    exact h.1.2
  have hop0 : ∀ f ∈ os, 0 ≤ f.1 := fun f hf => by
    have h := hops f hf
    simp only [opB, Bool.and_eq_true, decide_eq_true_eq] at h
    exact h.1.1
  have hXt : ∀ t ∈ X, t.length = k := fun t ht => ((hX t).1 ht).ok ha (by omega) hG |>.1
  have hSd := str_sorted hS hXt
  refine Spec.of_run2 (n := 215) Try.func24 rfl Try.results24 Try.ntmps24 rfl ?_
  repeat' (first | (with_reducible refine RL.done ?_) | (with_reducible refine RL.wanted ?_ ?_; exact rfl) | ((with_reducible show Run _ _ (.region 1 _ _) (Post.seq _ _) _ _); refine Run.cut (α := Nat × Nat × Nat) (fun y => [(1, vint (k : Int)), (2, vsl 1 (fun t : List Int => [vsl 1 (fun x : Int => [vint x]) t]) G), (3, vsl 1 (fun t : List Int => [vsl 1 (fun x : Int => [vint x]) t]) X), (4, vptr b4 0), (9, vsb y.1 X.length X.length), (10, vsb y.2.1 X.length X.length), (11, vsb y.2.2 0 0)]) (fun y => [hsl tNl (vsv (some ⟨y.1, 0, none⟩, X.length, X.length)) (List.replicate X.length []), harr y.2.1 1 (fun x : Bool => [vbool x]) (List.replicate X.length false) (X.length * 1), hsl tInt (vsv (some ⟨y.2.2, 0, none⟩, 0, 0)) [], hcells b4 [vint n, vsl 2 (fun y : Int × (List Int) => [vint y.1, vsl 1 (fun x : Int => [vint x]) y.2]) os]]) (fun _ => True) ?_ ?_; rotate_left; rintro ⟨b27, b30, b31⟩ -; (try dsimp only)) | ((with_reducible show Run _ _ (.region 1 _ true) _ _ _); refine Run.regionD (fun i => false) rfl ?_; change RD _ _ _ _ _ _ 10 (dm 10 0) _ _) | ((with_reducible show RD _ _ 1 _ _ _ _ _ _ _); first | ((with_reducible show RD _ _ _ _ _ _ _ (dm 10 0) _ _); refine RD.tk 0 (dm 10 902) (dm 10 1) (hK := ?_)) | ((with_reducible show RD _ _ _ _ _ _ _ (dm 10 1) _ _); refine RD.tk 1 (dm 10 900) (dm 10 3) (hK := ?_)) | ((with_reducible show RD _ _ _ _ _ _ _ (dm 10 3) _ _); refine RD.tk 3 (dm 10 816) (dm 10 11) (hK := ?_)) | ((with_reducible show RD _ _ _ _ _ _ _ (dm 10 11) _ _); refine RD.tk 4 (dm 10 800) (dm 10 27) (hK := ?_)) | ((with_reducible show RD _ _ _ _ _ _ _ (dm 10 27) _ _); refine RD.a3 2 5 6 ?_ ?_ ?_) | ((with_reducible show RD _ _ _ _ _ _ _ (dm 10 31) _ _); refine RD.tk 7 (dm 10 768) (dm 10 159) (hK := ?_)) | ((with_reducible show RD _ _ _ _ _ _ _ (dm 10 59) _ _); refine RD.a2 2 6 ?_ ?_) | ((with_reducible show RD _ _ _ _ _ _ _ (dm 10 91) _ _); refine RD.a2 2 5 ?_ ?_) | ((with_reducible show RD _ _ _ _ _ _ _ (dm 10 159) _ _); refine RD.a2 5 6 ?_ ?_) | ((with_reducible show RD _ _ _ _ _ _ _ (dm 10 63) _ _); refine RD.tk 7 (dm 10 768) (dm 10 191) (hK := ?_)) | ((with_reducible show RD _ _ _ _ _ _ _ (dm 10 123) _ _); refine RD.a1 2 ?_) | ((with_reducible show RD _ _ _ _ _ _ _ (dm 10 95) _ _); refine RD.tk 7 (dm 10 768) (dm 10 223) (hK := ?_)) | ((with_reducible show RD _ _ _ _ _ _ _ (dm 10 191) _ _); refine RD.tk 8 (dm 10 512) (dm 10 447) (hK := ?_)) | ((with_reducible show RD _ _ _ _ _ _ _ (dm 10 223) _ _); refine RD.a1 5 ?_) | ((with_reducible show RD _ _ _ _ _ _ _ (dm 10 127) _ _); refine RD.tk 7 (dm 10 768) (dm 10 255) (hK := ?_)) | ((with_reducible show RD _ _ _ _ _ _ _ (dm 10 447) _ _); refine RD.a1 6 ?_) | ((with_reducible show RD _ _ _ _ _ _ _ (dm 10 255) _ _); refine RD.tk 8 (dm 10 512) (dm 10 511) (hK := ?_)) | ((with_reducible show RD _ _ _ _ _ _ _ (dm 10 511) _ _); refine RD.tk 9 (dm 10 0) (dm 10 1023) (hK := ?_)) | ((with_reducible show RD _ _ _ _ _ _ 0 _ _ _); refine RD.done (by kernel_rfl) ?_)) | ((with_reducible show RO _ _ 1 _ _ _ _ _ _ _ _); first | ((with_reducible show RO _ _ _ _ _ _ _ (dm 10 27) 2 _ _); (refine RO.eS (dm 10 31) (hv := by show EOpS _ _ _ _ ⟨_, .makeSlice _ _ _, _, _, _, _⟩ _; exact EOpS.make (α := List Value) (List.map vlit) [.slice none 0 0] (fun c => .cons rfl .nil) rfl rfl (by omega) (by omega) (by omega)) (h := ?_); rintro _ _ ⟨b27, rfl, rfl⟩)) | ((with_reducible show RO _ _ _ _ _ _ _ (dm 10 27) 5 _ _); (refine RO.eS (dm 10 59) (hv := by show EOpS _ _ _ _ ⟨_, .makeSlice _ _ _, _, _, _, _⟩ _; exact EOpS.make (α := Bool) (fun x => [vbool x]) false (fun c => .cons rfl .nil) rfl rfl (by omega) (by omega) (by omega)) (h := ?_); rintro _ _ ⟨b30, rfl, rfl⟩)) | ((with_reducible show RO _ _ _ _ _ _ _ (dm 10 27) 6 _ _); (refine RO.eS (dm 10 91) (hv := by show EOpS _ _ _ _ ⟨_, .buildSlice _ _ _, _, _, _, _⟩ _; exact EOpS.slit (fun x : Int => [vint x]) _ (fun _ _ => rfl) (by repeat (first | exact Elts.nil | (apply Elts.cons; exact rfl; exact CellsOf.one))) rfl rfl) (h := ?_); rintro _ _ ⟨b31, rfl, rfl⟩)) | ((with_reducible show RO _ _ _ _ _ _ _ (dm 10 59) 2 _ _); (refine RO.eS (dm 10 63) (hv := by show EOpS _ _ _ _ ⟨_, .makeSlice _ _ _, _, _, _, _⟩ _; exact EOpS.make (α := List Value) (List.map vlit) [.slice none 0 0] (fun c => .cons rfl .nil) rfl rfl (by omega) (by omega) (by omega)) (h := ?_); rintro _ _ ⟨b27, rfl, rfl⟩)) | ((with_reducible show RO _ _ _ _ _ _ _ (dm 10 59) 6 _ _); (refine RO.eS (dm 10 123) (hv := by show EOpS _ _ _ _ ⟨_, .buildSlice _ _ _, _, _, _, _⟩ _; exact EOpS.slit (fun x : Int => [vint x]) _ (fun _ _ => rfl) (by repeat (first | exact Elts.nil | (apply Elts.cons; exact rfl; exact CellsOf.one))) rfl rfl) (h := ?_); rintro _ _ ⟨b31, rfl, rfl⟩)) | ((with_reducible show RO _ _ _ _ _ _ _ (dm 10 91) 2 _ _); (refine RO.eS (dm 10 95) (hv := by show EOpS _ _ _ _ ⟨_, .makeSlice _ _ _, _, _, _, _⟩ _; exact EOpS.make (α := List Value) (List.map vlit) [.slice none 0 0] (fun c => .cons rfl .nil) rfl rfl (by omega) (by omega) (by omega)) (h := ?_); rintro _ _ ⟨b27, rfl, rfl⟩)) | ((with_reducible show RO _ _ _ _ _ _ _ (dm 10 91) 5 _ _); (refine RO.eS (dm 10 123) (hv := by show EOpS _ _ _ _ ⟨_, .makeSlice _ _ _, _, _, _, _⟩ _; exact EOpS.make (α := Bool) (fun x => [vbool x]) false (fun c => .cons rfl .nil) rfl rfl (by omega) (by omega) (by omega)) (h := ?_); rintro _ _ ⟨b30, rfl, rfl⟩)) | ((with_reducible show RO _ _ _ _ _ _ _ (dm 10 159) 5 _ _); (refine RO.eS (dm 10 191) (hv := by show EOpS _ _ _ _ ⟨_, .makeSlice _ _ _, _, _, _, _⟩ _; exact EOpS.make (α := Bool) (fun x => [vbool x]) false (fun c => .cons rfl .nil) rfl rfl (by omega) (by omega) (by omega)) (h := ?_); rintro _ _ ⟨b30, rfl, rfl⟩)) | ((with_reducible show RO _ _ _ _ _ _ _ (dm 10 159) 6 _ _); (refine RO.eS (dm 10 223) (hv := by show EOpS _ _ _ _ ⟨_, .buildSlice _ _ _, _, _, _, _⟩ _; exact EOpS.slit (fun x : Int => [vint x]) _ (fun _ _ => rfl) (by repeat (first | exact Elts.nil | (apply Elts.cons; exact rfl; exact CellsOf.one))) rfl rfl) (h := ?_); rintro _ _ ⟨b31, rfl, rfl⟩)) | ((with_reducible show RO _ _ _ _ _ _ _ (dm 10 123) 2 _ _); (refine RO.eS (dm 10 127) (hv := by show EOpS _ _ _ _ ⟨_, .makeSlice _ _ _, _, _, _, _⟩ _; exact EOpS.make (α := List Value) (List.map vlit) [.slice none 0 0] (fun c => .cons rfl .nil) rfl rfl (by omega) (by omega) (by omega)) (h := ?_); rintro _ _ ⟨b27, rfl, rfl⟩)) | ((with_reducible show RO _ _ _ _ _ _ _ (dm 10 223) 5 _ _); (refine RO.eS (dm 10 255) (hv := by show EOpS _ _ _ _ ⟨_, .makeSlice _ _ _, _, _, _, _⟩ _; exact EOpS.make (α := Bool) (fun x => [vbool x]) false (fun c => .cons rfl .nil) rfl rfl (by omega) (by omega) (by omega)) (h := ?_); rintro _ _ ⟨b30, rfl, rfl⟩)) | ((with_reducible show RO _ _ _ _ _ _ _ (dm 10 447) 6 _ _); (refine RO.eS (dm 10 511) (hv := by show EOpS _ _ _ _ ⟨_, .buildSlice _ _ _, _, _, _, _⟩ _; exact EOpS.slit (fun x : Int => [vint x]) _ (fun _ _ => rfl) (by repeat (first | exact Elts.nil | (apply Elts.cons; exact rfl; exact CellsOf.one))) rfl rfl) (h := ?_); rintro _ _ ⟨b31, rfl, rfl⟩))) | ((with_reducible show RH _ _ _ ⟨some 4, .box _ _, _, _, _, _⟩ _ _ _ _); (refine RH.boxAgg rfl rfl ?_; rintro _ _ ⟨b4, rfl, rfl⟩)) | ((with_reducible show RH _ _ _ _ _ _ _ _); refine RH.val (hK := ?_)) | (with_reducible first | refine Run.seq ?_ | refine Run.region ?_ | refine Run.block ?_) | (with_reducible refine seqN (K := Run _ _ _ _) ?_))
  all_goals first
    | (exfalso; omega)
    | (show Met _ _ _ _ _ _
       exact Met.mk (b27, b30, b31) trivial (Ent.trans (((SEnt.pick (B := [harr b31 1 (fun x : Int => [vint x]) [] (0 * 1)]) (by repeat (first | exact Pick.nil | (apply Pick.cons; (repeat (first | exact Rem.head | apply Rem.tail)))))).trans ((SEnt.packNil tInt rfl).trans ((SEnt.pick (B := [harr b27 1 (List.map vlit) (List.replicate X.length [.slice none 0 0]) (X.length * 1)]) (by repeat (first | exact Pick.nil | (apply Pick.cons; (repeat (first | exact Rem.head | apply Rem.tail)))))).trans (SEnt.packNl (r := List.map vlit) (x0 := [.slice none 0 0]) rfl (Nat.le_refl X.length))))).ent) (Ent.of slA (by repeat (first | exact Ch.nil | refine Ch.same (by repeat (first | exact Rem.head | apply Rem.tail)) ?_)))))
    | skip
  refine Run.loop (α := Nat × List (List Int)) (fun z => [(1, vint (k : Int)), (2, vsl 1 (fun t : List Int => [vsl 1 (fun x : Int => [vint x]) t]) G), (3, vsl 1 (fun t : List Int => [vsl 1 (fun x : Int => [vint x]) t]) X), (4, vptr b4 0), (9, vsb b27 X.length X.length), (10, vsb b30 X.length X.length), (11, vsb b31 0 0), (12, vint (z.1 : Int))])
    (fun z => [hsl tNl (vsv (some ⟨b27, 0, none⟩, X.length, X.length)) z.2, harr b30 1 (fun x : Bool => [vbool x]) (List.replicate X.length false) (X.length * 1), hsl tInt (vsv (some ⟨b31, 0, none⟩, 0, 0)) [], hcells b4 [vint n, vsl 2 (fun y : Int × (List Int) => [vint y.1, vsl 1 (fun x : Int => [vint x]) y.2]) os]])
    (fun z => z.1 ≤ G.length ∧ Dg n os k G X z.1 z.2) (fun z => G.length - z.1) (0, List.replicate X.length []) ⟨Nat.zero_le _, Dg.nil n os k G X⟩ (Ent.of slA .refl) ?_
  rintro ⟨i, out⟩ ⟨hi, hD⟩
  dsimp only at hi hD ⊢
  have hol := hD.len
  rcases Nat.lt_or_eq_of_le hi with h9 | h9
  · have hGk := (hG _ (List.getElem_mem h9)).1
    have hXg : ∀ w ∈ X, w.length = G[i].length := fun w hw => by rw [hXt w hw, hGk]
    obtain ⟨hp, he⟩ := place_in hSd ((hX _).2 (.gen (List.getElem_mem h9)))
    have hg1 : out.getD (placeOf X G[i]) [] = out[placeOf X G[i]]'(by omega) := by rw [List.getD_eq_getElem?_getD, List.getElem?_eq_getElem (by omega)]; rfl
    repeat' (first | (with_reducible first | refine RL.done ?_ | refine RL.app0 ?_) | (with_reducible refine RL.wanted ?_ ?_; exact rfl) | ((with_reducible show RH _ _ _ ⟨some 50, .load 26 _, _, _, _, _⟩ _ _ _ _); refine RH.value rfl rfl (VOp.loadNlV (xs := out) rfl (by with_reducible repeat (first | exact Has.head | apply Has.tail)) (by omega)) ?_) | ((with_reducible show RH _ _ _ ⟨_, .store 26 (.tmp 57) _, _, _, _, _⟩ _ _ _ _); refine RH.put rfl (UOp.storeNl (xs := out) (z := [(i : Int)]) rfl rfl (fun c w h => by rw [vnl_ne (by simp)]; exact h) (by with_reducible repeat (first | exact Plc.head | apply Plc.tail)) (by omega)) ?_) | ((with_reducible show RH _ _ _ ⟨some 56, .buildSlice _ _ _, _, _, _, _⟩ _ _ _ _); refine RH.eff rfl rfl (EOpS.e (EOpS.slit (fun x : Int => [vint x]) _ (fun _ _ => rfl) (by repeat (first | exact Elts.nil | (apply Elts.cons; exact rfl; exact CellsOf.one))) rfl rfl)) ?_; rintro _ _ ⟨b56, rfl, rfl⟩; refine RL.frzA rfl ?_) | ((with_reducible show RH _ _ _ ⟨_, .call ⟨.value (.func 23), _, _⟩, _, _, _, _⟩ _ _ _ _); refine RH.cP Try.call23 ?_; refine ⟨_, l8Find_c X G[i] (by omega) (by omega) hXg hSd, ?_⟩; rintro _ _ ⟨rfl, rfl⟩) | ((with_reducible show RH _ _ _ _ _ _ _ _); refine RH.val (hK := ?_)) | (with_reducible first | refine Run.seq ?_ | refine Run.region ?_ | refine Run.block ?_ | refine Run.skip ?_ | refine Run.exit ?_) | (with_reducible show Run _ _ (.cond _ _ _) _ _ _; refine Run.condD rfl (fun h => ?_) (fun h => ?_)) | (with_reducible first | refine seqN (K := Run _ _ _ _) ?_ | refine seqE ?_ | refine blockN ?_ | refine blockE ?_))
    all_goals first
      | (exfalso; omega)
      | (with_reducible refine seqN ?_
         rcases Decidable.em (out.getD (placeOf X G[i]) [] = []) with e0 | e0
         · first
           | (exfalso; rw [hg1] at e0; have h8 := congrArg List.length e0; rw [List.length_nil] at h8; omega)
           | exact ⟨(i + 1, out.set (placeOf X G[i]) [(i : Int)]), ⟨by dsimp only; omega, hD.put hn h9 hp he e0⟩, by dsimp only; omega, Ent.of (by dsimp only; exact slA) chA⟩
         · first
           | (exfalso; exact e0 (by rw [hg1]; exact List.eq_nil_of_length_eq_zero (by omega)))
           | exact ⟨(i + 1, out), ⟨by dsimp only; omega, hD.have hn h9 hp he e0⟩, by dsimp only; omega, Ent.of (by dsimp only; exact slA) chA⟩)
      | trace_state
  · subst h9
    repeat' (first | (with_reducible refine RL.done ?_) | (with_reducible refine RL.wanted ?_ ?_; exact rfl) | ((with_reducible show RH _ _ _ _ _ _ _ _); refine RH.val (hK := ?_)) | (with_reducible first | refine Run.seq ?_ | refine Run.region ?_ | refine Run.block ?_ | refine Run.skip ?_ | refine Run.exit ?_) | (with_reducible show Run _ _ (.cond _ _ _) _ _ _; refine Run.condD rfl (fun h => ?_) (fun h => ?_)) | (with_reducible first | refine seqN (K := Run _ _ _ _) ?_ | refine seqE ?_ | refine blockE ?_))
    all_goals first
      | (exfalso; omega)
      | skip
    refine Run.loop (α := Nat × List (List Int)) (fun z => [(1, vint (k : Int)), (3, vsl 1 (fun t : List Int => [vsl 1 (fun x : Int => [vint x]) t]) X), (4, vptr b4 0), (9, vsb b27 X.length X.length), (10, vsb b30 X.length X.length), (11, vsb b31 0 0), (15, vint (z.1 : Int))])
      (fun z => [hsl tNl (vsv (some ⟨b27, 0, none⟩, X.length, X.length)) z.2, harr b30 1 (fun x : Bool => [vbool x]) (List.replicate X.length false) (X.length * 1), hsl tInt (vsv (some ⟨b31, 0, none⟩, 0, 0)) [], hcells b4 [vint n, vsl 2 (fun y : Int × (List Int) => [vint y.1, vsl 1 (fun x : Int => [vint x]) y.2]) os]])
      (fun z => z.1 ≤ os.length ∧ Dz n os k G X z.1 z.2) (fun z => os.length - z.1) (0, out) ⟨Nat.zero_le _, hD.len, hD.snd, hD.gen, fun j hj h0 => absurd h0 (Nat.not_lt_zero _)⟩ (Ent.of slA chA) ?_
    clear hD hol
    rintro ⟨j, out⟩ ⟨hj, hD⟩
    dsimp only at hj hD ⊢
    have hol := hD.len
    have hsm := hD.snd.small hol
    rcases Nat.lt_or_eq_of_le hj with hop | h8
    · by_cases h0 : os[j].1 = 0
      · have hap : ApOk n os[j].2 [] k := ap_ok ha (by omega) (List.getElem_mem hop) (by rw [h0]; rfl) (fun u hu => by cases hu)
        have hcl : Clo n os k G (applyT n os[j].2 [] k) := .op (List.getElem_mem hop) (by rw [h0]; rfl) (fun u hu => by cases hu)
        have hXa : ∀ w ∈ X, w.length = (applyT n os[j].2 [] k).length := fun w hw => by rw [hXt w hw, applyT_length]
        obtain ⟨hp, he⟩ := place_in hSd ((hX _).2 hcl)
        repeat' (first | (with_reducible refine RL.done ?_) | (with_reducible refine RL.wanted ?_ ?_; exact rfl) | ((with_reducible show RH _ _ _ ⟨some 76, .buildSlice _ _ _, _, _, _, _⟩ _ _ _ _); refine RH.eff rfl rfl (EOpS.e (EOpS.slit (fun t : List Int => [vsl 1 (fun x : Int => [vint x]) t]) [] (fun _ h => by cases h) .nil rfl rfl)) ?_; rintro _ _ ⟨b76, rfl, rfl⟩) | ((with_reducible show RH _ _ _ ⟨some 81, .buildSlice _ _ _, _, _, _, _⟩ _ _ _ _); refine RH.eff rfl rfl (EOpS.e (EOpS.slit (fun x : Int => [vint x]) _ (fun _ _ => rfl) (by repeat (first | exact Elts.nil | (apply Elts.cons; exact rfl; exact CellsOf.one))) rfl rfl)) ?_; rintro _ _ ⟨b81, rfl, rfl⟩; refine RL.frzA rfl ?_) | ((with_reducible show RH _ _ _ ⟨_, .call ⟨.value (.func 39), _, _⟩, _, _, _, _⟩ _ _ _ _); refine RH.cL Try.call39 ?_; apply Exists.intro; apply And.intro; (focus ((repeat (first | exact LVs.nil | (apply LVs.arr; (with_reducible repeat (exact Has.head)); (exact rfl); exact rfl) | apply LVs.agg | apply LVs.refl)); done)); refine ⟨_, l8Apply_c n os j hop (by omega) [] k hap, (by intro r H h; first | (obtain ⟨rfl, rfl⟩ := h; exact ⟨inferInstance, inferInstance⟩) | (obtain ⟨_, rfl, rfl⟩ := h; exact ⟨inferInstance, inferInstance⟩) | (obtain ⟨_, _, rfl, rfl⟩ := h; exact ⟨inferInstance, inferInstance⟩) | (obtain ⟨_, _, rfl, rfl, _⟩ := h; exact ⟨inferInstance, inferInstance⟩)), ?_⟩; rintro _ _ ⟨s78, rfl, rfl⟩; refine RL.app1 ?_; refine RL.frzI ?_) | ((with_reducible show RH _ _ _ ⟨_, .call ⟨.value (.func 46), _, _⟩, _, _, _, _⟩ _ _ _ _); refine RH.cW Try.call46 ?_; refine ⟨_, _, _, (by repeat (first | exact Pick.nil | (apply Pick.cons; (with_reducible repeat (first | exact Rem.head | apply Rem.tail))))), l8Better_c X out (some ⟨b27, 0, none⟩, X.length, X.length) (applyT n os[j].2 [] k) [-1 - (j : Int)] (by omega) (by rw [applyT_length]; omega) hXa hSd hp hol hsm (by simp) (by simp), ?_⟩; rintro _ _ ⟨rfl, rfl⟩; refine RL.nm ?_) | ((with_reducible show RH _ _ _ _ _ _ _ _); refine RH.val (hK := ?_)) | (with_reducible first | refine Run.seq ?_ | refine Run.region ?_ | refine Run.block ?_ | refine Run.skip ?_ | refine Run.exit ?_) | (with_reducible show Run _ _ (.cond _ _ _) _ _ _; refine Run.condD rfl (fun h => ?_) (fun h => ?_)) | (with_reducible first | refine seqN (K := Run _ _ _ _) ?_ | refine seqE ?_ | refine blockN ?_ | refine blockE ?_))
        all_goals first
          | (exfalso; omega)
          | (with_reducible refine seqN ?_
             exact ⟨(j + 1, bet out (placeOf X (applyT n os[j].2 [] k)) [-1 - (j : Int)]), ⟨by dsimp only; omega, hD.put hn hop h0 hp he⟩, by dsimp only; omega, Ent.of (by dsimp only; exact slA) chA⟩)
          | trace_state
      · repeat' (first | (with_reducible refine RL.done ?_) | (with_reducible refine RL.wanted ?_ ?_; exact rfl) | ((with_reducible show RH _ _ _ ⟨some 76, .buildSlice _ _ _, _, _, _, _⟩ _ _ _ _); (refine RH.eff rfl rfl (EOpS.e (EOpS.slitV (by ((repeat (first | exact Elts.nil | apply Elts.one1 rfl | apply Elts.agg2 rfl)); done)) (by simp) rfl rfl)) ?_; rintro _ _ ⟨b76, rfl, rfl⟩)) | ((with_reducible show RH _ _ _ _ _ _ _ _); refine RH.val (hK := ?_)) | (with_reducible first | refine Run.seq ?_ | refine Run.region ?_ | refine Run.block ?_ | refine Run.skip ?_ | refine Run.exit ?_) | (with_reducible show Run _ _ (.cond _ _ _) _ _ _; refine Run.condD rfl (fun h => ?_) (fun h => ?_)) | (with_reducible first | refine seqN (K := Run _ _ _ _) ?_ | refine seqE ?_ | refine blockN ?_ | refine blockE ?_))
        all_goals first
          | (exfalso; omega)
          | (with_reducible refine seqN ?_
             exact ⟨(j + 1, out), ⟨by dsimp only; omega, hD.pass hop h0⟩, by dsimp only; omega, Ent.of (by dsimp only; exact slA) chA⟩)
          | trace_state
    · subst h8
      repeat' (first | (with_reducible refine RL.done ?_) | (with_reducible refine RL.wanted ?_ ?_; exact rfl) | ((with_reducible show RH _ _ _ ⟨some 76, .buildSlice _ _ _, _, _, _, _⟩ _ _ _ _); (refine RH.eff rfl rfl (EOpS.e (EOpS.slitV (by ((repeat (first | exact Elts.nil | apply Elts.one1 rfl | apply Elts.agg2 rfl)); done)) (by simp) rfl rfl)) ?_; rintro _ _ ⟨b76, rfl, rfl⟩)) | ((with_reducible show RH _ _ _ _ _ _ _ _); refine RH.val (hK := ?_)) | (with_reducible first | refine Run.seq ?_ | refine Run.region ?_ | refine Run.block ?_ | refine Run.skip ?_ | refine Run.exit ?_) | (with_reducible show Run _ _ (.cond _ _ _) _ _ _; refine Run.condD rfl (fun h => ?_) (fun h => ?_)) | (with_reducible first | refine seqN (K := Run _ _ _ _) ?_ | refine seqE ?_ | refine blockN ?_ | refine blockE ?_))
      all_goals first
        | (exfalso; omega)
        | skip
      refine Run.loop (α := List Int × List Bool × List (List Int) × Sv) (fun z => [(1, vint (k : Int)), (3, vsl 1 (fun t : List Int => [vsl 1 (fun x : Int => [vint x]) t]) X), (4, vptr b4 0), (9, vsb b27 X.length X.length), (10, vsb b30 X.length X.length), (11, vlit (vsv z.2.2.2))])
        (fun z => [hsl tNl (vsv (some ⟨b27, 0, none⟩, X.length, X.length)) z.2.2.1, harr b30 1 (fun x : Bool => [vbool x]) z.2.1 (X.length * 1), hsl tInt (vsv z.2.2.2) z.1, hcells b4 [vint n, vsl 2 (fun y : Int × (List Int) => [vint y.1, vsl 1 (fun x : Int => [vint x]) y.2]) os]])
        (fun z => Dj n os k G X z.1 z.2.2.1 ∧ DoneB X z.1 z.2.1) (fun z => X.length - z.1.length) ([], List.replicate X.length false, out, (some ⟨b31, 0, none⟩, 0, 0)) ⟨hD.start hops, DoneB.nil X⟩ (Ent.of slA chA) ?_
      clear hD hol hsm
      rintro ⟨line, D, out, sl⟩ ⟨hD, hB⟩
      dsimp only at hD hB ⊢
      have hol := hD.len
      have hsm := hD.snd.small hol
      have hll := hD.line_le
      have hDl := hB.1
      repeat' (first | (with_reducible refine RL.done ?_) | (with_reducible refine RL.wanted ?_ ?_; exact rfl) | ((with_reducible show RH _ _ _ _ _ _ _ _); refine RH.val (hK := ?_)) | (with_reducible first | refine Run.seq ?_ | refine Run.region ?_ | refine Run.block ?_) | (with_reducible refine seqN (K := Run _ _ _ _) ?_))
      all_goals first
        | (exfalso; omega)
        | skip
      refine Run.loop (α := Nat × Int) (fun z => [(1, vint (k : Int)), (3, vsl 1 (fun t : List Int => [vsl 1 (fun x : Int => [vint x]) t]) X), (4, vptr b4 0), (9, vsb b27 X.length X.length), (10, vsb b30 X.length X.length), (11, vlit (vsv sl)), (16, vint z.2), (17, vint (z.1 : Int))])
        (fun _ => [hsl tNl (vsv (some ⟨b27, 0, none⟩, X.length, X.length)) out, harr b30 1 (fun x : Bool => [vbool x]) D (X.length * 1), hsl tInt (vsv sl) line, hcells b4 [vint n, vsl 2 (fun y : Int × (List Int) => [vint y.1, vsl 1 (fun x : Int => [vint x]) y.2]) os]])
        (fun z => z.1 ≤ X.length ∧ SelI line out z.1 z.2) (fun z => X.length - z.1) (0, -1) ⟨Nat.zero_le _, .inl ⟨rfl, fun p hp => absurd hp (Nat.not_lt_zero _)⟩⟩ (Ent.of slA chA) ?_
      rintro ⟨i, a⟩ ⟨hi, hI⟩
      dsimp only at hi hI ⊢
      rcases Nat.lt_or_eq_of_le hi with h9 | h9
      · have hio : i < out.length := by omega
        have hiD : i < D.length := by omega
        have hob := hsm _ (List.getElem_mem hio)
        have hgi : out.getD i [] = out[i] := by rw [List.getD_eq_getElem?_getD, List.getElem?_eq_getElem hio]; rfl
        have hcase := sel_case (D[i]) (out[i].length)
        have hyes : D[i] = true → (i : Int) ∈ line := (hB.2 i hiD).1
        have hno : D[i] = false → (i : Int) ∉ line := fun h1 h2 => by rw [(hB.2 i hiD).2 h2] at h1; cases h1
        have hnil : out[i].length = 0 → out.getD i [] = [] := fun h1 => by rw [hgi]; exact List.eq_nil_of_length_eq_zero h1
        have hnn : 0 < out[i].length → out.getD i [] ≠ [] := fun h1 h2 => by rw [hgi] at h2; rw [h2] at h1; cases h1
        have hI2 := hI
        rcases hI with ⟨rfl, hI⟩ | ⟨q, rfl, hq, hI⟩
        · repeat' (first | (with_reducible refine RL.done ?_) | (with_reducible refine RL.wanted ?_ ?_; exact rfl) | ((with_reducible show Run _ _ (.region 17 _ true) _ _ _); refine Run.regionD (fun i => false) rfl ?_; change RD _ _ _ _ _ _ 28 (dm 28 0) _ _) | ((with_reducible show RD _ _ 17 _ _ _ _ _ _ _); first | ((with_reducible show RD _ _ _ _ _ _ _ (dm 28 0) _ _); refine RD.tk 0 (dm 28 268435452) (dm 28 1) (hK := ?_)) | ((with_reducible show RD _ _ _ _ _ _ _ (dm 28 1) _ _); refine RD.tk 1 (dm 28 268435452) (dm 28 3) (hK := ?_)) | ((with_reducible show RD _ _ _ _ _ _ _ (dm 28 3) _ _); refine RD.tk 2 (dm 28 268435448) (dm 28 7) (hK := ?_)) | ((with_reducible show RD _ _ _ _ _ _ _ (dm 28 7) _ _); refine RD.tk 3 (dm 28 268435440) (dm 28 15) (hK := ?_)) | ((with_reducible show RD _ _ _ _ _ _ _ (dm 28 15) _ _); refine RD.tk 4 (dm 28 268435424) (dm 28 31) (hK := ?_)) | ((with_reducible show RD _ _ _ _ _ _ _ (dm 28 31) _ _); refine RD.tk 5 (dm 28 268435392) (dm 28 63) (hK := ?_)) | ((with_reducible show RD _ _ _ _ _ _ _ (dm 28 63) _ _); first | refine RD.tk 6 (dm 28 268435200) (dm 28 127) (hK := ?_) | refine RD.sk 6 (dm 28 268435200) (dm 28 127) (hK := ?_) | refine RD.spNB (i := 6) (fun h => ?_) (fun h => ?_)) | ((with_reducible show RD _ _ _ _ _ _ _ (dm 28 127) _ _); first | refine RD.tk 7 (dm 28 268435200) (dm 28 255) (hK := ?_) | refine RD.sk 7 (dm 28 268435200) (dm 28 255) (hK := ?_)) | ((with_reducible show RD _ _ _ _ _ _ _ (dm 28 255) _ _); first | refine RD.tk 8 (dm 28 268434944) (dm 28 511) (hK := ?_) | refine RD.sk 8 (dm 28 268434944) (dm 28 511) (hK := ?_)) | ((with_reducible show RD _ _ _ _ _ _ _ (dm 28 511) _ _); first | refine RD.tk 9 (dm 28 268434432) (dm 28 1023) (hv := VOp.loadNlV rfl (by ((with_reducible repeat (first | exact Has.head | apply Has.tail)); done)) (by omega)) (hK := ?_) | refine RD.sk 9 (dm 28 268434432) (dm 28 1023) (hK := ?_)) | ((with_reducible show RD _ _ _ _ _ _ _ (dm 28 1023) _ _); first | refine RD.tk 10 (dm 28 268433408) (dm 28 2047) (hK := ?_) | refine RD.sk 10 (dm 28 268433408) (dm 28 2047) (hK := ?_)) | ((with_reducible show RD _ _ _ _ _ _ _ (dm 28 2047) _ _); first | refine RD.tk 11 (dm 28 268431360) (dm 28 4095) (hK := ?_) | refine RD.sk 11 (dm 28 268431360) (dm 28 4095) (hK := ?_)) | ((with_reducible show RD _ _ _ _ _ _ _ (dm 28 4095) _ _); refine RD.tk 12 (dm 28 268427264) (dm 28 8191) (hK := ?_)) | ((with_reducible show RD _ _ _ _ _ _ _ (dm 28 8191) _ _); refine RD.tk 13 (dm 28 268419072) (dm 28 16383) (hK := ?_)) | ((with_reducible show RD _ _ _ _ _ _ _ (dm 28 16383) _ _); first | refine RD.tk 14 (dm 28 268402688) (dm 28 32767) (hK := ?_) | refine RD.sk 14 (dm 28 268402688) (dm 28 32767) (hK := ?_) | refine RD.spD (i := 14) (fun h => ?_) (fun h => ?_)) | ((with_reducible show RD _ _ _ _ _ _ _ (dm 28 32767) _ _); first | refine RD.tk 15 (dm 28 268369920) (dm 28 65535) (hK := ?_) | refine RD.sk 15 (dm 28 268369920) (dm 28 65535) (hK := ?_)) | ((with_reducible show RD _ _ _ _ _ _ _ (dm 28 65535) _ _); first | refine RD.tk 16 (dm 28 268304384) (dm 28 131071) (hK := ?_) | refine RD.sk 16 (dm 28 268304384) (dm 28 131071) (hK := ?_)) | ((with_reducible show RD _ _ _ _ _ _ _ (dm 28 131071) _ _); refine RD.sk 17 (dm 28 236453888) (dm 28 262143) (hK := ?_)) | ((with_reducible show RD _ _ _ _ _ _ _ (dm 28 262143) _ _); refine RD.sk 18 (dm 28 236453888) (dm 28 524287) (hK := ?_)) | ((with_reducible show RD _ _ _ _ _ _ _ (dm 28 524287) _ _); refine RD.sk 19 (dm 28 235929600) (dm 28 1048575) (hK := ?_)) | ((with_reducible show RD _ _ _ _ _ _ _ (dm 28 1048575) _ _); refine RD.sk 20 (dm 28 234881024) (dm 28 2097151) (hK := ?_)) | ((with_reducible show RD _ _ _ _ _ _ _ (dm 28 2097151) _ _); refine RD.sk 21 (dm 28 260046848) (dm 28 4194303) (hK := ?_)) | ((with_reducible show RD _ _ _ _ _ _ _ (dm 28 4194303) _ _); refine RD.sk 22 (dm 28 260046848) (dm 28 8388607) (hK := ?_)) | ((with_reducible show RD _ _ _ _ _ _ _ (dm 28 8388607) _ _); refine RD.sk 23 (dm 28 251658240) (dm 28 16777215) (hK := ?_)) | ((with_reducible show RD _ _ _ _ _ _ _ (dm 28 16777215) _ _); refine RD.sk 24 (dm 28 234881024) (dm 28 33554431) (hK := ?_)) | ((with_reducible show RD _ _ _ _ _ _ _ (dm 28 33554431) _ _); refine RD.sk 25 (dm 28 201326592) (dm 28 67108863) (hK := ?_)) | ((with_reducible show RD _ _ _ _ _ _ _ (dm 28 67108863) _ _); first | refine RD.tk 26 (dm 28 134217728) (dm 28 134217727) (hK := ?_) | refine RD.sk 26 (dm 28 134217728) (dm 28 134217727) (hK := ?_)) | ((with_reducible show RD _ _ _ _ _ _ _ (dm 28 134217727) _ _); refine RD.tk 27 (dm 28 0) (dm 28 268435455) (hK := ?_)) | ((with_reducible show RD _ _ _ _ _ _ 0 _ _ _); refine RD.done (by kernel_rfl) ?_)) | ((with_reducible show RH _ _ _ _ _ _ _ _); refine RH.val (hK := ?_)) | (with_reducible first | refine Run.seq ?_ | refine Run.region ?_ | refine Run.block ?_ | refine Run.skip ?_ | refine Run.exit ?_ | refine Run.ret ?_) | (with_reducible show Run _ _ (.cond _ _ _) _ _ _; first | refine Run.condT rfl ?_ | refine Run.condF rfl ?_ | refine Run.condD rfl (fun h => ?_) (fun h => ?_)) | (with_reducible first | refine seqN (K := Run _ _ _ _) ?_ | refine seqE ?_ | refine seqR ?_ | refine blockN ?_ | refine blockR ?_ | refine blockE ?_))
          all_goals first
            | (exfalso; omega)
            | (with_reducible refine seqN ?_
               rcases hcase with c1 | ⟨c1, c2⟩ | ⟨c1, c2⟩
               · first
                 | (exfalso; simp_all; done)
                 | exact ⟨(i + 1, -1), ⟨by dsimp only; omega, hI2.skip (.inl (hyes c1))⟩, by dsimp only; omega, Ent.of (by dsimp only; exact slA) chA⟩
               · first
                 | (exfalso; omega)
                 | (exfalso; simp_all; done)
                 | exact ⟨(i + 1, -1), ⟨by dsimp only; omega, hI2.skip (.inr (hnil c2))⟩, by dsimp only; omega, Ent.of (by dsimp only; exact slA) chA⟩
               · first
                 | (exfalso; omega)
                 | (exfalso; simp_all; done)
                 | exact ⟨(i + 1, (i : Int)), ⟨by dsimp only; omega, SelI.first hI (hno c1) (hnn c2)⟩, by dsimp only; omega, Ent.of (by dsimp only; exact slA) chA⟩)
            | trace_state
        · obtain ⟨hq2, hq3, hq4⟩ := hI
          have hqo : q < out.length := by omega
          have hoq := hsm _ (List.getElem_mem hqo)
          have hgq : out.getD q [] = out[q] := by rw [List.getD_eq_getElem?_getD, List.getElem?_eq_getElem hqo]; rfl
          have htt : tlt out[i] out[q] = true → tlt (out.getD i []) (out.getD q []) = true := fun h1 => by rw [hgi, hgq]; exact h1
          have htf : tlt out[i] out[q] = false → tlt (out.getD i []) (out.getD q []) = false := fun h1 => by rw [hgi, hgq]; exact h1
          have hbc : tlt out[i] out[q] = true ∨ tlt out[i] out[q] = false := by cases tlt out[i] out[q] <;> simp
          repeat' (first | (with_reducible first | refine RL.done ?_ | refine RD.app0 ?_) | (with_reducible refine RL.wanted ?_ ?_; exact rfl) | ((with_reducible show Run _ _ (.region 17 _ true) _ _ _); refine Run.regionD (fun i => false) rfl ?_; change RD _ _ _ _ _ _ 28 (dm 28 0) _ _) | ((with_reducible show RD _ _ 17 _ _ _ _ _ _ _); first | ((with_reducible show RD _ _ _ _ _ _ _ (dm 28 0) _ _); refine RD.tk 0 (dm 28 268435452) (dm 28 1) (hK := ?_)) | ((with_reducible show RD _ _ _ _ _ _ _ (dm 28 1) _ _); refine RD.tk 1 (dm 28 268435452) (dm 28 3) (hK := ?_)) | ((with_reducible show RD _ _ _ _ _ _ _ (dm 28 3) _ _); refine RD.tk 2 (dm 28 268435448) (dm 28 7) (hK := ?_)) | ((with_reducible show RD _ _ _ _ _ _ _ (dm 28 7) _ _); refine RD.tk 3 (dm 28 268435440) (dm 28 15) (hK := ?_)) | ((with_reducible show RD _ _ _ _ _ _ _ (dm 28 15) _ _); refine RD.tk 4 (dm 28 268435424) (dm 28 31) (hK := ?_)) | ((with_reducible show RD _ _ _ _ _ _ _ (dm 28 31) _ _); refine RD.tk 5 (dm 28 268435392) (dm 28 63) (hK := ?_)) | ((with_reducible show RD _ _ _ _ _ _ _ (dm 28 63) _ _); first | refine RD.tk 6 (dm 28 268435200) (dm 28 127) (hK := ?_) | refine RD.sk 6 (dm 28 268435200) (dm 28 127) (hK := ?_) | refine RD.spNB (i := 6) (fun h => ?_) (fun h => ?_)) | ((with_reducible show RD _ _ _ _ _ _ _ (dm 28 127) _ _); first | refine RD.tk 7 (dm 28 268435200) (dm 28 255) (hK := ?_) | refine RD.sk 7 (dm 28 268435200) (dm 28 255) (hK := ?_)) | ((with_reducible show RD _ _ _ _ _ _ _ (dm 28 255) _ _); first | refine RD.tk 8 (dm 28 268434944) (dm 28 511) (hK := ?_) | refine RD.sk 8 (dm 28 268434944) (dm 28 511) (hK := ?_)) | ((with_reducible show RD _ _ _ _ _ _ _ (dm 28 511) _ _); first | refine RD.tk 9 (dm 28 268434432) (dm 28 1023) (hv := VOp.loadNlV rfl (by ((with_reducible repeat (first | exact Has.head | apply Has.tail)); done)) (by omega)) (hK := ?_) | refine RD.sk 9 (dm 28 268434432) (dm 28 1023) (hK := ?_)) | ((with_reducible show RD _ _ _ _ _ _ _ (dm 28 1023) _ _); first | refine RD.tk 10 (dm 28 268433408) (dm 28 2047) (hK := ?_) | refine RD.sk 10 (dm 28 268433408) (dm 28 2047) (hK := ?_)) | ((with_reducible show RD _ _ _ _ _ _ _ (dm 28 2047) _ _); first | refine RD.tk 11 (dm 28 268431360) (dm 28 4095) (hK := ?_) | refine RD.sk 11 (dm 28 268431360) (dm 28 4095) (hK := ?_)) | ((with_reducible show RD _ _ _ _ _ _ _ (dm 28 4095) _ _); refine RD.tk 12 (dm 28 268427264) (dm 28 8191) (hK := ?_)) | ((with_reducible show RD _ _ _ _ _ _ _ (dm 28 8191) _ _); refine RD.tk 13 (dm 28 268419072) (dm 28 16383) (hK := ?_)) | ((with_reducible show RD _ _ _ _ _ _ _ (dm 28 16383) _ _); first | refine RD.tk 14 (dm 28 268402688) (dm 28 32767) (hK := ?_) | refine RD.sk 14 (dm 28 268402688) (dm 28 32767) (hK := ?_) | refine RD.spD (i := 14) (fun h => ?_) (fun h => ?_)) | ((with_reducible show RD _ _ _ _ _ _ _ (dm 28 32767) _ _); first | refine RD.tk 15 (dm 28 268369920) (dm 28 65535) (hK := ?_) | refine RD.sk 15 (dm 28 268369920) (dm 28 65535) (hK := ?_)) | ((with_reducible show RD _ _ _ _ _ _ _ (dm 28 65535) _ _); first | refine RD.tk 16 (dm 28 268304384) (dm 28 131071) (hK := ?_) | refine RD.sk 16 (dm 28 268304384) (dm 28 131071) (hK := ?_)) | ((with_reducible show RD _ _ _ _ _ _ _ (dm 28 131071) _ _); first | refine RD.tk 17 (dm 28 236453888) (dm 28 262143) (hK := ?_) | refine RD.sk 17 (dm 28 236453888) (dm 28 262143) (hK := ?_)) | ((with_reducible show RD _ _ _ _ _ _ _ (dm 28 262143) _ _); first | refine RD.tk 18 (dm 28 236453888) (dm 28 524287) (hK := ?_) | refine RD.sk 18 (dm 28 236453888) (dm 28 524287) (hK := ?_)) | ((with_reducible show RD _ _ _ _ _ _ _ (dm 28 524287) _ _); first | refine RD.tk 19 (dm 28 235929600) (dm 28 1048575) (hK := ?_) | refine RD.sk 19 (dm 28 235929600) (dm 28 1048575) (hK := ?_)) | ((with_reducible show RD _ _ _ _ _ _ _ (dm 28 1048575) _ _); first | refine RD.tk 20 (dm 28 234881024) (dm 28 2097151) (hv := VOp.loadNlV rfl (by ((with_reducible repeat (first | exact Has.head | apply Has.tail)); done)) (by omega)) (hK := ?_) | refine RD.sk 20 (dm 28 234881024) (dm 28 2097151) (hK := ?_)) | ((with_reducible show RD _ _ _ _ _ _ _ (dm 28 2097151) _ _); first | refine RD.tk 21 (dm 28 260046848) (dm 28 4194303) (hK := ?_) | refine RD.sk 21 (dm 28 260046848) (dm 28 4194303) (hK := ?_)) | ((with_reducible show RD _ _ _ _ _ _ _ (dm 28 4194303) _ _); first | refine RD.tk 22 (dm 28 260046848) (dm 28 8388607) (hK := ?_) | refine RD.sk 22 (dm 28 260046848) (dm 28 8388607) (hK := ?_)) | ((with_reducible show RD _ _ _ _ _ _ _ (dm 28 8388607) _ _); first | refine RD.tk 23 (dm 28 251658240) (dm 28 16777215) (hK := ?_) | refine RD.sk 23 (dm 28 251658240) (dm 28 16777215) (hK := ?_)) | ((with_reducible show RD _ _ _ _ _ _ _ (dm 28 16777215) _ _); first | refine RD.tk 24 (dm 28 234881024) (dm 28 33554431) (hv := VOp.loadNlV rfl (by ((with_reducible repeat (first | exact Has.head | apply Has.tail)); done)) (by omega)) (hK := ?_) | refine RD.sk 24 (dm 28 234881024) (dm 28 33554431) (hK := ?_)) | ((with_reducible show RD _ _ _ _ _ _ _ (dm 28 33554431) _ _); first | refine RD.sk 25 (dm 28 201326592) (dm 28 67108863) (hK := ?_) | refine RD.spD (i := 25) (fun h => ?_) (fun h => ?_) | refine RD.a1 25 ?_) | ((with_reducible show RD _ _ _ _ _ _ _ (dm 28 67108863) _ _); first | refine RD.tk 26 (dm 28 134217728) (dm 28 134217727) (hK := ?_) | refine RD.sk 26 (dm 28 134217728) (dm 28 134217727) (hK := ?_)) | ((with_reducible show RD _ _ _ _ _ _ _ (dm 28 134217727) _ _); refine RD.tk 27 (dm 28 0) (dm 28 268435455) (hK := ?_)) | ((with_reducible show RD _ _ _ _ _ _ 0 _ _ _); refine RD.done (by kernel_rfl) ?_)) | ((with_reducible show RO _ _ 17 _ _ _ _ _ _ _ _); ((with_reducible show RO _ _ _ _ _ _ _ (dm 28 33554431) 25 _ _); (refine RO.cP (dm 28 67108863) Try.call47 ?_; refine ⟨_, l3Before_c (out[i]'(by omega)) (out[q]'(by omega)) hob hoq, ?_⟩; rintro _ _ ⟨rfl, rfl⟩))) | ((with_reducible show RH _ _ _ ⟨some 126, .buildSlice _ _ _, _, _, _, _⟩ _ _ _ _); refine RH.eff rfl rfl (EOpS.e (EOpS.slit (fun x : Int => [vint x]) _ (fun _ _ => rfl) (by repeat (first | exact Elts.nil | (apply Elts.cons; exact rfl; exact CellsOf.one))) rfl rfl)) ?_; rintro _ _ ⟨b126, rfl, rfl⟩) | ((with_reducible show RH _ _ _ _ _ _ _ _); first | refine RH.val (hK := ?_) | refine RH.upd (hK := ?_)) | (with_reducible first | refine Run.seq ?_ | refine Run.region ?_ | refine Run.block ?_ | refine Run.skip ?_ | refine Run.exit ?_) | (with_reducible show Run _ _ (.cond _ _ _) _ _ _; first | refine Run.condT rfl ?_ | refine Run.condF rfl ?_ | refine Run.condD rfl (fun h => ?_) (fun h => ?_) | refine Run.cond rfl (fun h => ?_) (fun h => ?_)) | (with_reducible first | refine seqN (K := Run _ _ _ _) ?_ | refine seqE ?_ | refine blockN ?_ | refine blockE ?_))
          all_goals first
            | (exfalso; omega)
            | (with_reducible refine seqN ?_
               rcases hcase with c1 | ⟨c1, c2⟩ | ⟨c1, c2⟩
               · first
                 | (exfalso; clear htt htf hbc hyes hno hnil hnn; simp_all; done)
                 | exact ⟨(i + 1, (q : Int)), ⟨by dsimp only; omega, hI2.skip (.inl (hyes c1))⟩, by dsimp only; omega, Ent.of (by dsimp only; exact slA) chA⟩
               · first
                 | (exfalso; omega)
                 | (exfalso; clear htt htf hbc hyes hno hnil hnn; simp_all; done)
                 | exact ⟨(i + 1, (q : Int)), ⟨by dsimp only; omega, hI2.skip (.inr (hnil c2))⟩, by dsimp only; omega, Ent.of (by dsimp only; exact slA) chA⟩
               · first
                 | (exfalso; omega)
                 | (exfalso; clear htt htf hbc hyes hno hnil hnn; simp_all; done)
                 | (rcases hbc with c3 | c3
                    · first
                      | (exfalso; clear htt htf hyes hno hnil hnn; simp_all; done)
                      | exact ⟨(i + 1, (i : Int)), ⟨by dsimp only; omega, SelI.take hq4 (hno c1) (hnn c2) (htt c3)⟩, by dsimp only; omega, Ent.of (by dsimp only; exact slA) chA⟩
                    · first
                      | (exfalso; clear htt htf hyes hno hnil hnn; simp_all; done)
                      | exact ⟨(i + 1, (q : Int)), ⟨by dsimp only; omega, SelI.stay hq hq2 hq3 hq4 (htf c3)⟩, by dsimp only; omega, Ent.of (by dsimp only; exact slA) chA⟩))
            | trace_state
      · subst h9
        rcases hI with ⟨rfl, hI⟩ | ⟨p0, rfl, hp, hpn, hpne, hpmin⟩
        · repeat' (first | (with_reducible refine RL.done ?_) | (with_reducible refine RL.wanted ?_ ?_; exact rfl) | ((with_reducible show RH _ _ _ _ _ _ _ _); refine RH.val (hK := ?_)) | (with_reducible first | refine Run.seq ?_ | refine Run.region ?_ | refine Run.block ?_ | refine Run.skip ?_ | refine Run.exit ?_ | refine Run.ret ?_) | (with_reducible show Run _ _ (.cond _ _ _) _ _ _; first | refine Run.condT rfl ?_ | refine Run.condD rfl (fun h => ?_) (fun h => ?_)) | (with_reducible first | refine seqN (K := Run _ _ _ _) ?_ | refine seqE ?_ | refine seqR ?_ | refine blockR ?_ | refine blockE ?_))
          all_goals first
            | (exfalso; omega)
            | (refine ⟨eA, _, [hsl tNl (vsv (some ⟨b27, 0, none⟩, X.length, X.length)) out], resA, ?_, ?_⟩
               · exact SEnt.ch chA
               · exact ⟨(some ⟨b27, 0, none⟩, X.length, X.length), out, rfl, rfl, hol, hD.best hn hop0 fun i hi hne => Classical.byContradiction fun h => hne (hI i hi h)⟩)
            | trace_state
        · have hln : (line ++ [(p0 : Int)]).length = line.length + 1 := by simp
          have hK := hD.next hp hpne hpn hpmin
          have hnd : (line ++ [(p0 : Int)]).Nodup := by
            rw [List.nodup_append]
            exact ⟨hD.nodup, by simp, fun a ha b hb e => by cases List.mem_singleton.1 hb; exact hpn (e ▸ ha)⟩
          have hlt : line.length < X.length := by
            have h7 := line_bound hnd (m := X.length) (fun x hx => by obtain ⟨h1, h2, _⟩ := hK.mem x hx; exact ⟨h1, h2⟩)
            omega
          have hpD : p0 < D.length := by omega
          have hcov0 : ∀ j (hj : j < os.length), 0 < os[j].1 → CovL n os k X line out j os[j] := hD.cov
          have hB2 := hB.set p0
          have hm1 : (((line ++ [(p0 : Int)]).length : Nat) : Int) - 1 = (line.length : Int) := by omega
          repeat' (first | (with_reducible refine RL.done ?_) | (with_reducible refine RL.wanted ?_ ?_; exact rfl) | ((with_reducible show RH _ _ _ ⟨some 126, .buildSlice _ _ _, _, _, _, _⟩ _ _ _ _); refine RH.eff rfl rfl (EOpS.e (EOpS.slit (fun x : Int => [vint x]) _ (fun _ _ => rfl) (by repeat (first | exact Elts.nil | (apply Elts.cons; exact rfl; exact CellsOf.one))) rfl rfl)) ?_; rintro _ _ ⟨b126, rfl, rfl⟩) | ((with_reducible show RH _ _ _ ⟨_, .call ⟨.builtin .append, _, _⟩, _, _, _, _⟩ _ _ _ _); (refine RH.appI rfl rfl rfl (by repeat (first | exact Pick.nil | (apply Pick.cons; (with_reducible repeat (first | exact Rem.head | apply Rem.tail))))) (by first | omega | (simp; omega)) (by first | omega | (simp; omega)) ?_); rintro _ _ ⟨s, rfl, rfl⟩) | ((with_reducible show RH _ _ _ _ _ _ _ _); first | refine RH.val (hK := ?_) | refine RH.upd (hK := ?_)) | (with_reducible first | refine Run.seq ?_ | refine Run.region ?_ | refine Run.block ?_ | refine Run.skip ?_ | refine Run.exit ?_) | (with_reducible show Run _ _ (.cond _ _ _) _ _ _; first | refine Run.condF rfl ?_ | refine Run.condD rfl (fun h => ?_) (fun h => ?_)) | (with_reducible first | refine seqN (K := Run _ _ _ _) ?_ | refine seqE ?_ | refine blockE ?_))
          all_goals first
            | (exfalso; omega)
            | skip
          rw [hm1]
          refine Run.loop (α := Nat × List (List Int)) (fun z => [(1, vint (k : Int)), (3, vsl 1 (fun t : List Int => [vsl 1 (fun x : Int => [vint x]) t]) X), (4, vptr b4 0), (9, vsb b27 X.length X.length), (10, vsb b30 X.length X.length), (11, vlit (vsv s)), (18, vint (line.length : Int)), (19, vint (z.1 : Int))])
            (fun z => [hsl tNl (vsv (some ⟨b27, 0, none⟩, X.length, X.length)) z.2, harr b30 1 (fun x : Bool => [vbool x]) (D.set p0 true) (X.length * 1), hsl tInt (vsv s) (line ++ [(p0 : Int)]), hcells b4 [vint n, vsl 2 (fun y : Int × (List Int) => [vint y.1, vsl 1 (fun x : Int => [vint x]) y.2]) os]])
            (fun z => z.1 ≤ os.length ∧ Dk n os k G X (line ++ [(p0 : Int)]) p0 z.2 ∧ (∀ j (hj : j < os.length), 0 < os[j].1 → CovL n os k X line z.2 j os[j]) ∧ (∀ j (hj : j < os.length), j < z.1 → 0 < os[j].1 → CovL n os k X (line ++ [(p0 : Int)]) z.2 j os[j])) (fun z => os.length - z.1) (0, out) ⟨Nat.zero_le _, hK, hcov0, fun j hj h => absurd h (Nat.not_lt_zero _)⟩ (Ent.of slA chA) ?_
          clear hK hcov0 hD hpne hpmin hol hsm
          rintro ⟨op, out⟩ ⟨hopl, hK, hcov0, hcov⟩
          dsimp only at hopl hK hcov0 hcov ⊢
          have hol := hK.len
          have hsm := hK.snd.small hol
          rcases Nat.lt_or_eq_of_le hopl with hop | h8
          · have hf3 := hop0 _ (List.getElem_mem hop)
            have ho3 := hop3 _ (List.getElem_mem hop)
            repeat' (first | (with_reducible refine RL.done ?_) | (with_reducible refine RL.wanted ?_ ?_; exact rfl) | ((with_reducible show Run _ _ (.region 27 _ true) (Post.seq _ _) _ _); refine Run.cut (α := Nat) (fun b => [(1, vint (k : Int)), (3, vsl 1 (fun t : List Int => [vsl 1 (fun x : Int => [vint x]) t]) X), (4, vptr b4 0), (9, vsb b27 X.length X.length), (10, vsb b30 X.length X.length), (11, vlit (vsv s)), (18, vint (line.length : Int)), (19, vint (op : Int)), (20, vsb b (os[op].1.toNat) (os[op].1.toNat)), (21, vbool (decide ((0 : Int) < os[op].1)))]) (fun b => [harr b 1 (fun x : Int => [vint x]) (List.replicate (os[op].1.toNat) (0 : Int)) (os[op].1.toNat * 1), hsl tNl (vsv (some ⟨b27, 0, none⟩, X.length, X.length)) out, harr b30 1 (fun x : Bool => [vbool x]) (D.set p0 true) (X.length * 1), hsl tInt (vsv s) (line ++ [(p0 : Int)]), hcells b4 [vint n, vsl 2 (fun y : Int × (List Int) => [vint y.1, vsl 1 (fun x : Int => [vint x]) y.2]) os]]) (fun _ => True) ?_ ?_; rotate_left; rintro b144 -; (try dsimp only)) | ((with_reducible show Run _ _ (.region 27 _ true) _ _ _); refine Run.regionD (fun i => false) rfl ?_; change RD _ _ _ _ _ _ 16 (dm 16 0) _ _) | ((with_reducible show RD _ _ 27 _ _ _ _ _ _ _); first | ((with_reducible show RD _ _ _ _ _ _ _ (dm 16 0) _ _); refine RD.tk 0 (dm 16 49274) (dm 16 1) (hK := ?_)) | ((with_reducible show RD _ _ _ _ _ _ _ (dm 16 1) _ _); refine RD.tk 1 (dm 16 49272) (dm 16 3) (hK := ?_)) | ((with_reducible show RD _ _ _ _ _ _ _ (dm 16 3) _ _); refine RD.tk 2 (dm 16 49272) (dm 16 7) (hK := ?_)) | ((with_reducible show RD _ _ _ _ _ _ _ (dm 16 7) _ _); refine RD.tk 3 (dm 16 49264) (dm 16 15) (hK := ?_)) | ((with_reducible show RD _ _ _ _ _ _ _ (dm 16 15) _ _); refine RD.tk 4 (dm 16 49248) (dm 16 31) (hK := ?_)) | ((with_reducible show RD _ _ _ _ _ _ _ (dm 16 31) _ _); refine RD.tk 5 (dm 16 49216) (dm 16 63) (hK := ?_)) | ((with_reducible show RD _ _ _ _ _ _ _ (dm 16 63) _ _); refine RD.tk 7 (dm 16 48384) (dm 16 191) (hK := ?_)) | ((with_reducible show RD _ _ _ _ _ _ _ (dm 16 191) _ _); refine RD.tk 8 (dm 16 48128) (dm 16 447) (hK := ?_)) | ((with_reducible show RD _ _ _ _ _ _ _ (dm 16 447) _ _); refine RD.tk 9 (dm 16 48128) (dm 16 959) (hK := ?_)) | ((with_reducible show RD _ _ _ _ _ _ _ (dm 16 959) _ _); refine RD.tk 10 (dm 16 47104) (dm 16 1983) (hK := ?_)) | ((with_reducible show RD _ _ _ _ _ _ _ (dm 16 1983) _ _); refine RD.tk 11 (dm 16 45056) (dm 16 4031) (hK := ?_)) | ((with_reducible show RD _ _ _ _ _ _ _ (dm 16 4031) _ _); refine RD.tk 12 (dm 16 40960) (dm 16 8127) (hK := ?_)) | ((with_reducible show RD _ _ _ _ _ _ _ (dm 16 8127) _ _); refine RD.tk 13 (dm 16 32768) (dm 16 16319) (hK := ?_)) | ((with_reducible show RD _ _ _ _ _ _ _ (dm 16 16319) _ _); refine RD.a1 6 ?_) | ((with_reducible show RD _ _ _ _ _ _ _ (dm 16 16383) _ _); refine RD.tk 14 (dm 16 32768) (dm 16 32767) (hK := ?_)) | ((with_reducible show RD _ _ _ _ _ _ _ (dm 16 32767) _ _); refine RD.tk 15 (dm 16 0) (dm 16 65535) (hK := ?_)) | ((with_reducible show RD _ _ _ _ _ _ 0 _ _ _); refine RD.done (by kernel_rfl) ?_)) | ((with_reducible show RO _ _ 27 _ _ _ _ _ _ _ _); ((with_reducible show RO _ _ _ _ _ _ _ (dm 16 16319) 6 _ _); (refine RO.eS (dm 16 16383) (hv := by show EOpS _ _ _ _ ⟨_, .makeSlice _ _ _, _, _, _, _⟩ _; exact EOpS.makeZ (α := Int) (fun x => [vint x]) 0 (fun c => .cons rfl .nil) rfl rfl (by omega) (by omega) (by omega)) (h := ?_); rintro _ _ ⟨b144, rfl, rfl⟩))) | ((with_reducible show RH _ _ _ _ _ _ _ _); refine RH.val (hK := ?_)) | (with_reducible first | refine Run.seq ?_ | refine Run.region ?_ | refine Run.block ?_ | refine Run.skip ?_ | refine Run.exit ?_) | (with_reducible show Run _ _ (.cond _ _ _) _ _ _; refine Run.condD rfl (fun h => ?_) (fun h => ?_)) | (with_reducible first | refine seqN (K := Run _ _ _ _) ?_ | refine seqE ?_ | refine blockN ?_ | refine blockE ?_))
            all_goals first
              | (exfalso; omega)
              | exact Met.mk b144 trivial (Ent.of slA chA)
              | skip
            have hc1 : ((line.length + 1 : Nat) : Int) = (line.length : Int) + 1 := by omega
            refine Run.sent (T := [hsl tInt (vsv (some ⟨b144, 0, none⟩, os[op].1.toNat, os[op].1.toNat)) (List.replicate os[op].1.toNat 0), hsl tNl (vsv (some ⟨b27, 0, none⟩, X.length, X.length)) out, harr b30 1 (fun x : Bool => [vbool x]) (D.set p0 true) (X.length * 1), hsl tInt (vsv s) (line ++ [(p0 : Int)]), hcells b4 [vint n, vsl 2 (fun y : Int × (List Int) => [vint y.1, vsl 1 (fun x : Int => [vint x]) y.2]) os]]) (SEnt.pack (fun _ => rfl) (by simp)) ?_
            refine Run.loop (α := Nat × Bool × Sv × List Int × List (List Int)) (fun z => [(1, vint (k : Int)), (3, vsl 1 (fun t : List Int => [vsl 1 (fun x : Int => [vint x]) t]) X), (4, vptr b4 0), (9, vsb b27 X.length X.length), (10, vsb b30 X.length X.length), (11, vlit (vsv s)), (18, vint (line.length : Int)), (19, vint (op : Int)), (20, vlit (vsv z.2.2.1)), (21, vbool z.2.1)])
              (fun z => [hsl tInt (vsv z.2.2.1) z.2.2.2.1, hsl tNl (vsv (some ⟨b27, 0, none⟩, X.length, X.length)) z.2.2.2.2, harr b30 1 (fun x : Bool => [vbool x]) (D.set p0 true) (X.length * 1), hsl tInt (vsv s) (line ++ [(p0 : Int)]), hcells b4 [vint n, vsl 2 (fun y : Int × (List Int) => [vint y.1, vsl 1 (fun x : Int => [vint x]) y.2]) os]])
              (fun z => Dk n os k G X (line ++ [(p0 : Int)]) p0 z.2.2.2.2 ∧ (∀ j (hj : j < os.length), 0 < os[j].1 → CovL n os k X line z.2.2.2.2 j os[j]) ∧ (∀ j (hj : j < os.length), j < op → 0 < os[j].1 → CovL n os k X (line ++ [(p0 : Int)]) z.2.2.2.2 j os[j]) ∧ NumC n os k X line p0 op os[op] z.1 z.2.2.2.2 ∧ z.2.1 = decide (0 < os[op].1 ∧ (z.1 : Int) < pw ((line.length : Int) + 1) os[op].1.toNat) ∧ (z.2.1 = true → z.2.2.2.1 = lowd (z.1 : Int) ((line.length : Int) + 1) os[op].1.toNat))
              (fun z => (pw ((line.length : Int) + 1) os[op].1.toNat).toNat - z.1) (0, decide ((0 : Int) < os[op].1), (some ⟨b144, 0, none⟩, os[op].1.toNat, os[op].1.toNat), List.replicate os[op].1.toNat 0, out)
              ⟨hK, hcov0, hcov, (fun q hq => absurd hq (Nat.not_lt_zero _)), (by
                apply decide_eq_decide.2
                have h1 := (more_iff (line.length + 1) os[op].1.toNat).1 (.inr (by omega))
                rw [hc1] at h1
                exact ⟨fun h => ⟨h, h1⟩, fun h => h.1⟩), fun _ => (lowd_zero _ _).symm⟩ (Ent.of slA .refl) ?_
            clear hK hcov0 hcov hol hsm
            rintro ⟨i, mr, u, L, out⟩ ⟨hK, hcov0, hcov, hnumc, hmr, hL⟩
            dsimp only at hK hcov0 hcov hnumc hmr hL ⊢
            have hol := hK.len
            have hsm := hK.snd.small hol
            cases mr with
            | false =>
              have h5 := of_decide_eq_false hmr.symm
              have hcv : ∀ j (hj : j < os.length), j < op + 1 → 0 < os[j].1 → CovL n os k X (line ++ [(p0 : Int)]) out j os[j] := fun j hj hj2 h0 => by
                rcases Nat.lt_or_eq_of_le (Nat.le_of_lt_succ hj2) with h6 | h6
                · exact hcov j hj h6 h0
                · subst h6
                  exact cov_all (fun x hx => by obtain ⟨h1, h2, _⟩ := hK.mem x hx; exact ⟨h1, h2⟩) (hcov0 j hj h0) (fun q hq hm => hnumc q (by have : ¬ (i : Int) < pw ((line.length : Int) + 1) os[j].1.toNat := fun h7 => h5 ⟨h0, h7⟩; omega) hm)
              repeat' (first | (with_reducible refine RL.done ?_) | (with_reducible refine RL.wanted ?_ ?_; exact rfl) | ((with_reducible show RH _ _ _ _ _ _ _ _); refine RH.val (hK := ?_)) | (with_reducible first | refine Run.seq ?_ | refine Run.region ?_ | refine Run.exit ?_) | (with_reducible show Run _ _ (.cond _ _ _) _ _ _; refine Run.condF rfl ?_) | (with_reducible first | refine seqN (K := Run _ _ _ _) ?_ | refine seqE ?_ | refine blockN ?_ | refine blockE ?_))
              all_goals first
                | (exfalso; omega)
                | (with_reducible refine seqN ?_
                   exact ⟨(op + 1, out), ⟨by dsimp only; omega, hK, hcov0, hcv⟩, by dsimp only; omega, Ent.of (by dsimp only; exact slA) (by dsimp only; exact chA)⟩)
                | trace_state
            | true =>
              obtain rfl := hL rfl
              obtain ⟨h0, hi⟩ := of_decide_eq_true hmr.symm
              have hlw := low_at (c := line.length + 1) (i := i) (k := os[op].1.toNat) (by rw [hc1]; exact hi)
              rw [hc1] at hlw
              have hll3 := lowd_length (i : Int) ((line.length : Int) + 1) os[op].1.toNat
              obtain ⟨hx1, hx2⟩ := next_at (line.length + 1) os[op].1.toNat (i := i) (by rw [hc1]; exact hi)
              rw [hc1] at hx1 hx2
              have hmr' : (nextL ((line.length : Int) + 1) (lowd (i : Int) ((line.length : Int) + 1) os[op].1.toNat)).2 = decide (0 < os[op].1 ∧ ((i + 1 : Nat) : Int) < pw ((line.length : Int) + 1) os[op].1.toNat) := by
                rw [hx1]
                exact decide_eq_decide.2 ⟨fun h => ⟨h0, by omega⟩, fun h => by omega⟩
              have hL' : (nextL ((line.length : Int) + 1) (lowd (i : Int) ((line.length : Int) + 1) os[op].1.toNat)).2 = true → (nextL ((line.length : Int) + 1) (lowd (i : Int) ((line.length : Int) + 1) os[op].1.toNat)).1 = lowd ((i + 1 : Nat) : Int) ((line.length : Int) + 1) os[op].1.toNat := fun h => by
                rw [hx1] at h
                exact hx2 (of_decide_eq_true h)
              by_cases hmm : (line.length : Int) ∈ (lowd (i : Int) ((line.length : Int) + 1) os[op].1.toNat)
              · obtain ⟨N, hN⟩ : ∃ N, N = lowd (i : Int) ((line.length : Int) + 1) os[op].1.toNat := ⟨_, rfl⟩
                obtain ⟨T, hT⟩ : ∃ T, T = chosen (chosen X (line ++ [(p0 : Int)])) N := ⟨_, rfl⟩
                rw [← hN] at hlw hll3 hmr' hL' hmm ⊢
                have hTl : T.length = N.length := by rw [hT, chosen_len]
                have hmem : ∀ x ∈ line ++ [(p0 : Int)], 0 ≤ x ∧ x.toNat < X.length := fun x hx => by obtain ⟨h1, h2, _⟩ := hK.mem x hx; exact ⟨h1, h2⟩
                repeat' (first | (with_reducible refine RL.done ?_) | (with_reducible refine RL.wanted ?_ ?_; exact rfl) | ((with_reducible show RH _ _ _ ⟨some 158, .buildSlice _ _ _, _, _, _, _⟩ _ _ _ _); refine RH.eff rfl rfl (EOpS.e (EOpS.slit (fun x : Int => [vint x]) _ (fun _ _ => rfl) (by repeat (first | exact Elts.nil | (apply Elts.cons; exact rfl; exact CellsOf.one))) rfl rfl)) ?_; rintro _ _ ⟨b158, rfl, rfl⟩) | ((with_reducible show RH _ _ _ ⟨some 159, .buildSlice _ _ _, _, _, _, _⟩ _ _ _ _); (refine RH.eff rfl rfl (EOpS.e (EOpS.slitV (by ((repeat (first | exact Elts.nil | apply Elts.one1 rfl | apply Elts.agg2 rfl)); done)) (by simp) rfl rfl)) ?_; rintro _ _ ⟨b159, rfl, rfl⟩)) | ((with_reducible show RH _ _ _ ⟨_, .call ⟨.value (.func 41), _, _⟩, _, _, _, _⟩ _ _ _ _); refine RH.cL Try.call41 ?_; apply Exists.intro; apply And.intro; (focus ((repeat (first | exact LVs.nil | (apply LVs.sl; (with_reducible repeat (first | exact Has.head | apply Has.tail)); exact inferInstance; exact rfl) | apply LVs.refl)); done)); refine ⟨_, l1HasN_c _ _ (by omega), (by intro r H h; first | (obtain ⟨rfl, rfl⟩ := h; exact ⟨inferInstance, inferInstance⟩) | (obtain ⟨_, rfl, rfl⟩ := h; exact ⟨inferInstance, inferInstance⟩) | (obtain ⟨_, _, rfl, rfl⟩ := h; exact ⟨inferInstance, inferInstance⟩) | (obtain ⟨_, _, rfl, rfl, _⟩ := h; exact ⟨inferInstance, inferInstance⟩)), ?_⟩; rintro _ _ ⟨rfl, rfl⟩; refine RL.nm ?_) | ((with_reducible show RH _ _ _ _ _ _ _ _); refine RH.val (hK := ?_)) | (with_reducible first | refine Run.seq ?_ | refine Run.region ?_ | refine Run.block ?_ | refine Run.skip ?_) | (with_reducible show Run _ _ (.cond _ _ _) _ _ _; first | refine Run.condT rfl ?_ | refine Run.condD rfl (fun h => ?_) (fun h => ?_)) | (with_reducible refine seqN (K := Run _ _ _ _) ?_))
                all_goals first
                  | (exfalso; omega)
                  | contradiction
                  | skip
                refine Run.sent (T := [harr b158 1 (fun x : Int => [vint x]) (tlT X out op T 0) (1 * 1), hsl tRow (vsv (some ⟨b159, 0, none⟩, 0, 0)) (T.take 0), hsl tInt (vsv u) N, hsl tNl (vsv (some ⟨b27, 0, none⟩, X.length, X.length)) out, harr b30 1 (fun x : Bool => [vbool x]) (D.set p0 true) (X.length * 1), hsl tInt (vsv s) (line ++ [(p0 : Int)]), hcells b4 [vint n, vsl 2 (fun y : Int × (List Int) => [vint y.1, vsl 1 (fun x : Int => [vint x]) y.2]) os]]) ((SEnt.pick (B := [harr b159 1 _ [] (0 * 1)]) (by repeat (first | exact Pick.nil | (apply Pick.cons; (repeat (first | exact Rem.head | apply Rem.tail)))))).trans ((SEnt.packNil tRow rfl).trans (SEnt.ch (by repeat (first | exact Ch.nil | refine Ch.same (by repeat (first | exact Rem.head | apply Rem.tail)) ?_))))) ?_
                refine Run.loop (α := Nat × Nat × Nat × Sv) (fun z => [(1, vint (k : Int)), (3, vsl 1 (fun t : List Int => [vsl 1 (fun x : Int => [vint x]) t]) X), (4, vptr b4 0), (9, vsb b27 X.length X.length), (10, vsb b30 X.length X.length), (11, vlit (vsv s)), (18, vint (line.length : Int)), (19, vint (op : Int)), (20, vlit (vsv u)), (21, vbool true), (22, vsb z.2.1 (tlT X out op T z.1).length z.2.2.1), (23, vlit (vsv z.2.2.2)), (24, vint (z.1 : Int))])
                  (fun z => [harr z.2.1 1 (fun x : Int => [vint x]) (tlT X out op T z.1) (z.2.2.1 * 1), hsl tRow (vsv z.2.2.2) (T.take z.1), hsl tInt (vsv u) N, hsl tNl (vsv (some ⟨b27, 0, none⟩, X.length, X.length)) out, harr b30 1 (fun x : Bool => [vbool x]) (D.set p0 true) (X.length * 1), hsl tInt (vsv s) (line ++ [(p0 : Int)]), hcells b4 [vint n, vsl 2 (fun y : Int × (List Int) => [vint y.1, vsl 1 (fun x : Int => [vint x]) y.2]) os]])
                  (fun z => z.1 ≤ N.length) (fun z => N.length - z.1) (0, b158, 1, (some ⟨b159, 0, none⟩, 0, 0)) (Nat.zero_le _) (Ent.of slA .refl) ?_
                rintro ⟨q, bt, ct, sa⟩ hq
                dsimp only at hq ⊢
                have htk : (T.take q).length = q := by rw [List.length_take]; omega
                by_cases hgo : q < N.length ∧ (tlT X out op T q).length ≤ 60
                · obtain ⟨hq9, h60⟩ := hgo
                  obtain ⟨hx0, hx1⟩ := hlw N[q] (List.getElem_mem hq9)
                  have hx1' : (N[q]).toNat < (line ++ [(p0 : Int)]).length := by omega
                  obtain ⟨hy0, hy1⟩ := hmem _ (List.getElem_mem hx1')
                  have hy1' : ((line ++ [(p0 : Int)])[(N[q]).toNat]).toNat < out.length := by omega
                  have hrow := hK.snd.sixty hol _ (List.getElem_mem hy1')
                  have hTq : T[q]'(by omega) = X[((line ++ [(p0 : Int)])[(N[q]).toNat]).toNat] := term_at hT hq9 (by omega) hx1' hy0 hy1
                  have e1 := tlT_succ (X := X) (out := out) (j := op) hn (show q < T.length by omega) hy1 hTq hol
                  have e2 : T.take (q + 1) = T.take q ++ [X[((line ++ [(p0 : Int)])[(N[q]).toNat]).toNat]] := by rw [List.take_add_one, List.getElem?_eq_getElem (by omega), hTq]; rfl
                  have e3 : (tlT X out op T (q + 1)).length = (tlT X out op T q).length + (out[((line ++ [(p0 : Int)])[(N[q]).toNat]).toNat]).length := by rw [e1, List.length_append]
                  repeat' (first | (with_reducible refine RL.done ?_) | (with_reducible refine RL.wanted ?_ ?_; exact rfl) | ((with_reducible show RH _ _ _ ⟨some 181, .load _ _, _, _, _, _⟩ _ _ _ _); refine RH.value rfl rfl (VOp.loadNlV (xs := out) rfl (by with_reducible repeat (first | exact Has.head | apply Has.tail)) (by omega)) ?_) | ((with_reducible show RH _ _ _ ⟨some 182, .call ⟨.builtin .append, _, _⟩, _, _, _, _⟩ _ _ _ _); refine RH.appV rfl rfl rfl (by with_reducible repeat (first | exact Plc.head | apply Plc.tail)) rfl (by decide) (by omega) (by omega) ?_; rintro _ _ ⟨bt2, ct2, rfl, rfl⟩) | ((with_reducible show RH _ _ _ ⟨some 194, .buildSlice _ _ _, _, _, _, _⟩ _ _ _ _); (refine RH.eff rfl rfl (EOpS.e (EOpS.slit (fun t : List Int => [vsl 1 (fun x : Int => [vint x]) t]) _ (fun _ _ => rfl) (by ((repeat (first | exact Elts.nil | (apply Elts.cons; exact rfl; exact CellsOf.one))); done)) rfl rfl)) ?_; rintro _ _ ⟨b194, rfl, rfl⟩)) | ((with_reducible show RH _ _ _ ⟨_, .call ⟨.builtin .append, _, _⟩, _, _, _, _⟩ _ _ _ _); (refine RH.appF rfl rfl rfl (by repeat (first | exact Pick.nil | (apply Pick.cons; (with_reducible repeat (first | exact Rem.head | apply Rem.tail))))) (by first | omega | (simp; omega)) (by first | omega | (simp; omega)) ?_); rintro _ _ ⟨s, rfl, rfl⟩) | ((with_reducible show RH _ _ _ _ _ _ _ _); refine RH.val (hK := ?_)) | (with_reducible show RL _ _ _ (_ :: _) _ _ _; first | refine RL.guardYes rfl rfl rfl rfl ?_ | refine RL.guardNoS rfl rfl rfl rfl rfl rfl ?_ | refine RL.splitD rfl rfl rfl (fun h => ?_) (fun h => ?_)) | (with_reducible first | refine Run.seq ?_ | refine Run.region ?_ | refine Run.block ?_ | refine Run.skip ?_ | refine Run.exit ?_) | (with_reducible show Run _ _ (.cond _ _ _) _ _ _; first | refine Run.condF rfl ?_ | refine Run.condD rfl (fun h => ?_) (fun h => ?_)) | (with_reducible first | refine seqN (K := Run _ _ _ _) ?_ | refine seqE ?_ | refine blockN ?_ | refine blockE ?_))
                  all_goals first
                    | (exfalso; omega)
                    | (with_reducible refine seqN ?_
                       exact ⟨(q + 1, _, _, _), by dsimp only; omega, by dsimp only; omega, Ent.of (by dsimp only; rw [e3]; exact slA) (by dsimp only; rw [e1, e2]; exact chA)⟩)
                    | trace_state
                · refine Run.sent (T := [hsl tInt (.slice (some ⟨bt, 0, none⟩) (tlT X out op T q).length ct) (tlT X out op T q), hsl tRow (vsv sa) (T.take q), hsl tInt (vsv u) N, hsl tNl (vsv (some ⟨b27, 0, none⟩, X.length, X.length)) out, harr b30 1 (fun x : Bool => [vbool x]) (D.set p0 true) (X.length * 1), hsl tInt (vsv s) (line ++ [(p0 : Int)]), hcells b4 [vint n, vsl 2 (fun y : Int × (List Int) => [vint y.1, vsl 1 (fun x : Int => [vint x]) y.2]) os]]) (SEnt.pack (rv := fun x : Int => .int .i64 x) (fun _ => rfl) rfl) ?_
                  refine Run.frzSl (t := tInt) 22 rfl .head ?_
                  refine Run.frzSl (t := tRow) 23 rfl .head ?_
                  have hon : ∀ w ∈ T, OnLine X (line ++ [(p0 : Int)]) w := by rw [hT]; exact num_on hmem (fun x hx => ⟨(hlw x hx).1, by have := (hlw x hx).2; omega⟩)
                  by_cases h60 : (tlT X out op T q).length ≤ 60
                  · obtain rfl : q = N.length := by omega
                    have hTT : T.take N.length = T := List.take_of_length_le (by omega)
                    have htt := tlT_all (X := X) (out := out) (j := op) (T := T) (q := N.length) (by omega)
                    rw [htt] at h60
                    rw [htt, hTT]
                    have hTk : ∀ w ∈ T, TupOk n k w := fun w hw => by
                      obtain ⟨r, hr, _, rfl⟩ := hon w hw
                      exact ((hX _).1 (List.getElem_mem hr)).ok ha (by omega) hG
                    have hTa : T.length = os[op].1.toNat := by omega
                    have hap : ApOk n os[op].2 T k := ap_ok ha (by omega) (List.getElem_mem hop) hTa hTk
                    have hcl : Clo n os k G (applyT n os[op].2 T k) := .op (List.getElem_mem hop) hTa (fun w hw => by
                      obtain ⟨r, hr, _, rfl⟩ := hon w hw
                      exact (hX _).1 (List.getElem_mem hr))
                    have hXa : ∀ w ∈ X, w.length = (applyT n os[op].2 T k).length := fun w hw => by rw [hXt w hw, applyT_length]
                    obtain ⟨hpp, he⟩ := place_in hSd ((hX _).2 hcl)
                    have hlong := hK.long hn hp (by rw [hT]; exact num_new hp hmm : X[p0] ∈ T)
                    have hl9 : (out.getD p0 []).length < ((-1 - (op : Int)) :: (T.map (bO X out)).flatten).length := by rw [List.length_cons]; omega
                    have hmade : Made n os k G ((-1 - (op : Int)) :: (T.map (bO X out)).flatten) X[placeOf X (applyT n os[op].2 T k)] := by
                      rw [he]
                      exact Made.op (us := T.map (bO X out)) hop hTa (by simp) (fun r h1 h2 => by
                        rw [List.getElem_map]
                        obtain ⟨v, hv, h3, e4⟩ := hon _ (List.getElem_mem h2)
                        rw [e4, bO_at hn hv]
                        exact (hK.snd v hv (by have := (hK.mem _ h3).2.2.1; simpa using this)).1)
                    have hK' := hK.bet hpp hmade h60 hl9
                    have hc0' : ∀ j (hj : j < os.length), 0 < os[j].1 → CovL n os k X line (bet out (placeOf X (applyT n os[op].2 T k)) ((-1 - (op : Int)) :: (T.map (bO X out)).flatten)) j os[j] := fun j hj h0 ts hl hts => hK.cov hn hpp (by simp) hl9 (fun w hw => (hts w hw).mono) (hcov0 j hj h0 ts hl hts)
                    have hc1' : ∀ j (hj : j < os.length), j < op → 0 < os[j].1 → CovL n os k X (line ++ [(p0 : Int)]) (bet out (placeOf X (applyT n os[op].2 T k)) ((-1 - (op : Int)) :: (T.map (bO X out)).flatten)) j os[j] := fun j hj h1 h0 ts hl hts => hK.cov hn hpp (by simp) hl9 hts (hcov j hj h1 h0 ts hl hts)
                    have hnx : NumC n os k X line p0 op os[op] (i + 1) (bet out (placeOf X (applyT n os[op].2 T k)) ((-1 - (op : Int)) :: (T.map (bO X out)).flatten)) := fun r hr hm => by
                      rcases Nat.lt_or_eq_of_le (Nat.le_of_lt_succ hr) with h6 | h6
                      · refine hK.cov hn hpp (by simp) hl9 (num_on hmem (fun x hx => ?_)) (hnumc r h6 hm)
                        have h8 := low_at (c := line.length + 1) (i := r) (k := os[op].1.toNat) (by rw [hc1]; omega) x (by rw [hc1]; exact hx)
                        exact ⟨h8.1, by omega⟩
                      · subst h6
                        rw [← hN, ← hT]
                        exact hK.now hn hpp hon he hlong
                    repeat' (first | (with_reducible refine RL.done ?_) | (with_reducible refine RL.wanted ?_ ?_; exact rfl) | ((with_reducible show RH _ _ _ ⟨_, .call ⟨.value (.func 39), _, _⟩, _, _, _, _⟩ _ _ _ _); refine RH.cP Try.call39 ?_; refine ⟨_, l8Apply_c n os op hop (by omega) T k hap, ?_⟩; rintro _ _ ⟨s205, rfl, rfl⟩; refine RL.app1 ?_; refine RL.frzI ?_) | ((with_reducible show RH _ _ _ ⟨_, .call ⟨.value (.func 46), _, _⟩, _, _, _, _⟩ _ _ _ _); refine RH.cW Try.call46 ?_; refine ⟨_, _, _, (by repeat (first | exact Pick.nil | (apply Pick.cons; (with_reducible repeat (first | exact Rem.head | apply Rem.tail))))), l8Better_c X out (some ⟨b27, 0, none⟩, X.length, X.length) (applyT n os[op].2 T k) ((-1 - (op : Int)) :: (T.map (bO X out)).flatten) (by omega) (by rw [applyT_length]; omega) hXa hSd hpp hol hsm (by simp) (by omega), ?_⟩; rintro _ _ ⟨rfl, rfl⟩; refine RL.nm ?_) | ((with_reducible show RH _ _ _ ⟨_, .call ⟨.value (.func 43), _, _⟩, _, _, _, _⟩ _ _ _ _); refine RH.cL Try.call43 ?_; apply Exists.intro; apply And.intro; (focus ((repeat (first | exact LVs.nil | (apply LVs.sl; (with_reducible repeat (first | exact Has.head | apply Has.tail)); exact inferInstance; exact rfl) | apply LVs.refl)); done)); refine ⟨_, l8Next_c _ _ (by omega) (by omega) (by omega) (by exact fun x hx => (hlw x hx).1), (by intro r H h; first | (obtain ⟨rfl, rfl⟩ := h; exact ⟨inferInstance, inferInstance⟩) | (obtain ⟨_, rfl, rfl⟩ := h; exact ⟨inferInstance, inferInstance⟩) | (obtain ⟨_, _, rfl, rfl⟩ := h; exact ⟨inferInstance, inferInstance⟩) | (obtain ⟨_, _, rfl, rfl, _⟩ := h; exact ⟨inferInstance, inferInstance⟩)), ?_⟩; rintro _ _ ⟨s213, rfl, rfl⟩; refine RL.nm ?_) | ((with_reducible show RH _ _ _ _ _ _ _ _); refine RH.val (hK := ?_)) | (with_reducible show RL _ _ _ (_ :: _) _ _ _; first | refine RL.guardYes rfl rfl rfl rfl ?_ | refine RL.guardNoS rfl rfl rfl rfl rfl rfl ?_ | refine RL.splitD rfl rfl rfl (fun h => ?_) (fun h => ?_)) | (with_reducible first | refine Run.seq ?_ | refine Run.region ?_ | refine Run.block ?_ | refine Run.skip ?_ | refine Run.exit ?_) | (with_reducible show Run _ _ (.cond _ _ _) _ _ _; first | refine Run.condF rfl ?_ | refine Run.condD rfl (fun h => ?_) (fun h => ?_)) | (with_reducible first | refine seqN (K := Run _ _ _ _) ?_ | refine seqE ?_ | refine blockN ?_ | refine blockE ?_))
                    all_goals first
                      | (exfalso; omega)
                      | contradiction
                      | (with_reducible refine seqN ?_
                         exact ⟨(i + 1, _, s213, _, bet out (placeOf X (applyT n os[op].2 T k)) ((-1 - (op : Int)) :: (T.map (bO X out)).flatten)), ⟨hK', hc0', hc1', hnx, hmr', hL'⟩, by dsimp only; omega, Ent.of (by dsimp only; exact slA) (by dsimp only; exact chA)⟩)
                      | trace_state
                  · have hnx : NumC n os k X line p0 op os[op] (i + 1) out := fun r hr hm => by
                      rcases Nat.lt_or_eq_of_le (Nat.le_of_lt_succ hr) with h6 | h6
                      · exact hnumc r h6 hm
                      · subst h6
                        rw [← hN, ← hT]
                        intro h7
                        have := tlT_le X out op T q
                        omega
                    repeat' (first | (with_reducible refine RL.done ?_) | (with_reducible refine RL.wanted ?_ ?_; exact rfl) | ((with_reducible show RH _ _ _ ⟨_, .call ⟨.value (.func 43), _, _⟩, _, _, _, _⟩ _ _ _ _); refine RH.cL Try.call43 ?_; apply Exists.intro; apply And.intro; (focus ((repeat (first | exact LVs.nil | (apply LVs.sl; (with_reducible repeat (first | exact Has.head | apply Has.tail)); exact inferInstance; exact rfl) | apply LVs.refl)); done)); refine ⟨_, l8Next_c _ _ (by omega) (by omega) (by omega) (by exact fun x hx => (hlw x hx).1), (by intro r H h; first | (obtain ⟨rfl, rfl⟩ := h; exact ⟨inferInstance, inferInstance⟩) | (obtain ⟨_, rfl, rfl⟩ := h; exact ⟨inferInstance, inferInstance⟩) | (obtain ⟨_, _, rfl, rfl⟩ := h; exact ⟨inferInstance, inferInstance⟩) | (obtain ⟨_, _, rfl, rfl, _⟩ := h; exact ⟨inferInstance, inferInstance⟩)), ?_⟩; rintro _ _ ⟨s213, rfl, rfl⟩; refine RL.nm ?_) | ((with_reducible show RH _ _ _ _ _ _ _ _); refine RH.val (hK := ?_)) | (with_reducible show RL _ _ _ (_ :: _) _ _ _; first | refine RL.guardYes rfl rfl rfl rfl ?_ | refine RL.guardNoS rfl rfl rfl rfl rfl rfl ?_ | refine RL.splitD rfl rfl rfl (fun h => ?_) (fun h => ?_)) | (with_reducible first | refine Run.seq ?_ | refine Run.region ?_ | refine Run.block ?_ | refine Run.skip ?_ | refine Run.exit ?_) | (with_reducible show Run _ _ (.cond _ _ _) _ _ _; first | refine Run.condF rfl ?_ | refine Run.condD rfl (fun h => ?_) (fun h => ?_)) | (with_reducible first | refine seqN (K := Run _ _ _ _) ?_ | refine seqE ?_ | refine blockN ?_ | refine blockE ?_))
                    all_goals first
                      | (exfalso; omega)
                      | contradiction
                      | (with_reducible refine seqN ?_
                         exact ⟨(i + 1, _, s213, _, out), ⟨hK, hcov0, hcov, hnx, hmr', hL'⟩, by dsimp only; omega, Ent.of (by dsimp only; exact slA) (by dsimp only; exact chA)⟩)
                      | trace_state
              · have hnx : NumC n os k X line p0 op os[op] (i + 1) out := fun q hq hm => by
                  rcases Nat.lt_or_eq_of_le (Nat.le_of_lt_succ hq) with h6 | h6
                  · exact hnumc q h6 hm
                  · subst h6; exact absurd hm hmm
                repeat' (first | (with_reducible refine RL.done ?_) | (with_reducible refine RL.wanted ?_ ?_; exact rfl) | ((with_reducible show RH _ _ _ ⟨some 158, .buildSlice _ _ _, _, _, _, _⟩ _ _ _ _); refine RH.eff rfl rfl (EOpS.e (EOpS.slit (fun x : Int => [vint x]) _ (fun _ _ => rfl) (by repeat (first | exact Elts.nil | (apply Elts.cons; exact rfl; exact CellsOf.one))) rfl rfl)) ?_; rintro _ _ ⟨b158, rfl, rfl⟩) | ((with_reducible show RH _ _ _ ⟨some 159, .buildSlice _ _ _, _, _, _, _⟩ _ _ _ _); (refine RH.eff rfl rfl (EOpS.e (EOpS.slitV (by ((repeat (first | exact Elts.nil | apply Elts.one1 rfl | apply Elts.agg2 rfl)); done)) (by simp) rfl rfl)) ?_; rintro _ _ ⟨b159, rfl, rfl⟩)) | ((with_reducible show RH _ _ _ ⟨_, .call ⟨.value (.func 41), _, _⟩, _, _, _, _⟩ _ _ _ _); refine RH.cL Try.call41 ?_; apply Exists.intro; apply And.intro; (focus ((repeat (first | exact LVs.nil | (apply LVs.sl; (with_reducible repeat (first | exact Has.head | apply Has.tail)); exact inferInstance; exact rfl) | apply LVs.refl)); done)); refine ⟨_, l1HasN_c _ _ (by omega), (by intro r H h; first | (obtain ⟨rfl, rfl⟩ := h; exact ⟨inferInstance, inferInstance⟩) | (obtain ⟨_, rfl, rfl⟩ := h; exact ⟨inferInstance, inferInstance⟩) | (obtain ⟨_, _, rfl, rfl⟩ := h; exact ⟨inferInstance, inferInstance⟩) | (obtain ⟨_, _, rfl, rfl, _⟩ := h; exact ⟨inferInstance, inferInstance⟩)), ?_⟩; rintro _ _ ⟨rfl, rfl⟩; refine RL.nm ?_) | ((with_reducible show RH _ _ _ ⟨_, .call ⟨.value (.func 43), _, _⟩, _, _, _, _⟩ _ _ _ _); refine RH.cL Try.call43 ?_; apply Exists.intro; apply And.intro; (focus ((repeat (first | exact LVs.nil | (apply LVs.sl; (with_reducible repeat (first | exact Has.head | apply Has.tail)); exact inferInstance; exact rfl) | apply LVs.refl)); done)); refine ⟨_, l8Next_c _ _ (by omega) (by omega) (by omega) (by exact fun x hx => (hlw x hx).1), (by intro r H h; first | (obtain ⟨rfl, rfl⟩ := h; exact ⟨inferInstance, inferInstance⟩) | (obtain ⟨_, rfl, rfl⟩ := h; exact ⟨inferInstance, inferInstance⟩) | (obtain ⟨_, _, rfl, rfl⟩ := h; exact ⟨inferInstance, inferInstance⟩) | (obtain ⟨_, _, rfl, rfl, _⟩ := h; exact ⟨inferInstance, inferInstance⟩)), ?_⟩; rintro _ _ ⟨s213, rfl, rfl⟩; refine RL.nm ?_) | ((with_reducible show RH _ _ _ _ _ _ _ _); refine RH.val (hK := ?_)) | (with_reducible first | refine Run.seq ?_ | refine Run.region ?_ | refine Run.block ?_ | refine Run.skip ?_) | (with_reducible show Run _ _ (.cond _ _ _) _ _ _; first | refine Run.condT rfl ?_ | refine Run.condD rfl (fun h => ?_) (fun h => ?_)) | (with_reducible first | refine seqN (K := Run _ _ _ _) ?_ | refine blockN ?_))
                all_goals first
                  | (exfalso; omega)
                  | contradiction
                  | (with_reducible refine seqN ?_
                     exact ⟨(i + 1, _, s213, _, out), ⟨hK, hcov0, hcov, hnx, hmr', hL'⟩, by dsimp only; omega, Ent.of (by dsimp only; exact slA) (by dsimp only; exact chA)⟩)
                  | trace_state
          · subst h8
            repeat' (first | (with_reducible refine RL.done ?_) | (with_reducible refine RL.wanted ?_ ?_; exact rfl) | ((with_reducible show RH _ _ _ _ _ _ _ _); refine RH.val (hK := ?_)) | (with_reducible first | refine Run.seq ?_ | refine Run.region ?_ | refine Run.block ?_ | refine Run.skip ?_ | refine Run.exit ?_) | (with_reducible show Run _ _ (.cond _ _ _) _ _ _; refine Run.condD rfl (fun h => ?_) (fun h => ?_)) | (with_reducible first | refine seqN (K := Run _ _ _ _) ?_ | refine seqE ?_ | refine blockN ?_ | refine blockE ?_))
            all_goals first
              | (exfalso; omega)
              | (with_reducible refine seqN ?_
                 exact ⟨(line ++ [(p0 : Int)], D.set p0 true, out, s), ⟨hK.done hnd (fun j hj h => hcov j hj hj h), hB2⟩, by dsimp only; omega, Ent.of (by dsimp only; exact slA) chA⟩)
              | trace_state
end Go.Proofs.Ytemfpennomelaaa
