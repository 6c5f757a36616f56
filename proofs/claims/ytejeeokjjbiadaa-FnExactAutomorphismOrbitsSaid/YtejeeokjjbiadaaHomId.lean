/- The identity is found by a search for homomorphisms of an algebra into itself, unless the search is too long. No program in sight. -/
import Derived.Test.YtejeeokjjbiadaaHomT
namespace Go.Proofs.Ytejeeokjjbiadaa
open Go Go.Proofs
set_option linter.unusedVariables false
theorem hor_low (n : Int) (hn : 1 ≤ n) : ∀ (k : Nat) (i : Int), 0 ≤ i → i < pw n k → hor n (lowd i n k) = i
  | 0, i, h0, h1 => by simp only [pw] at h1; simp [lowd, hor]; omega
  | k + 1, i, h0, h1 => by
    have e : ∀ (m : Nat) (i : Int), lowd i n (m + 1) = lowd (i / n) n m ++ [i % n] := by
      have dvs : ∀ (i : Int) (m : Nat), dv i n (m + 1) = dv (i / n) n m := fun i m => by
        induction m with
        | zero => rfl
        | succ m ih => rw [dv, ih]; rfl
      intro m
      induction m with
      | zero => intro i; rfl
      | succ m ih => intro i; rw [lowd, ih, dvs]; rfl
    have hq : i / n * n + i % n = i := Int.ediv_mul_add_emod i n
    rw [e, hor_snoc, hor_low n hn k (i / n) (Int.ediv_nonneg h0 (by omega)) (Int.ediv_lt_of_lt_mul (by omega) (by simpa [pw] using h1))]
    exact hq
/-- a part of the identity -/
def PId (N : Nat) (f : List Int) : Prop := f.length = N ∧ ∀ (i : Nat) (h : i < f.length), f[i] < 0 ∨ f[i] = i
theorem PId.set {N : Nat} {f : List Int} (h : PId N f) (v : Nat) : PId N (f.set v (v : Int)) := by
  refine ⟨by rw [List.length_set]; exact h.1, fun i hi => ?_⟩
  rw [List.length_set] at hi
  rw [List.getElem_set]
  split
  · rename_i e; subst e; exact .inr rfl
  · exact h.2 i hi
theorem PId.im {N : Nat} {f : List Int} (h : PId N f) {ds : List Int} (hd : ∀ x ∈ ds, 0 ≤ x ∧ x < N) (ho : openB (imL f ds) = false) : imL f ds = ds := by
  rw [openB, List.any_eq_false] at ho
  have : ∀ x ∈ ds, f.getD x.toNat 0 = x := fun x hx => by
    have h1 := ho _ (List.mem_map.2 ⟨x, hx, rfl⟩)
    obtain ⟨h2, h3⟩ := hd x hx
    have h4 : x.toNat < f.length := by rw [h.1]; omega
    rw [List.getD_eq_getElem?_getD, List.getElem?_eq_getElem h4, Option.getD_some] at h1 ⊢
    have h5 := h.2 _ h4
    simp only [decide_eq_true_eq] at h1
    omega
  rw [imL, List.map_congr_left this, List.map_id']
theorem PId.clS {N : Nat} {o : Int × List Int} (h1 : 1 ≤ N) (ho : opB (N : Int) o.1 o.2 = true) {s : List Int × Bool} (h : PId N s.1) {i : Nat} (hi : i < o.2.length) : ∃ t, clS (N : Int) (N : Int) o o s i = some t ∧ PId N t.1 := by
  obtain ⟨h2, h3, h4, h5⟩ := opB_fact ho
  have hv : 0 ≤ o.2[i] ∧ o.2[i] < (N : Int) := by
    rw [elB, List.all_eq_true] at h5
    simpa using h5 _ (List.getElem_mem hi)
  have hvg : o.2.getD i 0 = o.2[i] := by rw [List.getD_eq_getElem?_getD, List.getElem?_eq_getElem hi]; rfl
  rw [Go.Proofs.Ytejeeokjjbiadaa.clS]
  cases hop : openB (imA (N : Int) o s.1 i) with
  | true => exact ⟨s, if_pos rfl, h⟩
  | false =>
    have him := h.im (digits (by omega) i o.1.toNat) hop
    have hcl : clV (N : Int) (N : Int) o o s.1 i = o.2[i] := by
      rw [clV, imA, him, hor_low (N : Int) (by omega) o.1.toNat (i : Int) (by omega) (by omega), Int.toNat_natCast, hvg]
    rw [if_neg (by simp), hcl, hvg]
    have hvl : (o.2[i]).toNat < s.1.length := by rw [h.1]; omega
    have he : ((o.2[i]).toNat : Int) = o.2[i] := by omega
    split
    · refine ⟨_, rfl, ?_⟩
      have := h.set (o.2[i]).toNat
      rw [he] at this
      exact this
    · rename_i hno
      rw [List.getD_eq_getElem?_getD, List.getElem?_eq_getElem hvl, Option.getD_some] at hno ⊢
      have h6 := h.2 _ hvl
      rw [if_pos (by omega)]
      exact ⟨s, rfl, h⟩
theorem PId.fold {N : Nat} {β : Type} {g : List Int × Bool → β → Option (List Int × Bool)} : ∀ (l : List β) {s : List Int × Bool}, PId N s.1 → (∀ x ∈ l, ∀ s, PId N s.1 → ∃ t, g s x = some t ∧ PId N t.1) → ∃ t, l.foldlM g s = some t ∧ PId N t.1
  | [], s, h, _ => ⟨s, rfl, h⟩
  | x :: l, s, h, hg => by
    obtain ⟨t, h1, h2⟩ := hg x (by simp) s h
    obtain ⟨u, h3, h4⟩ := PId.fold l h2 (fun y hy => hg y (by simp [hy]))
    exact ⟨u, by rw [List.foldlM_cons, h1]; exact h3, h4⟩
theorem PId.clR {N : Nat} {os : List (Int × List Int)} (h1 : 1 ≤ N) (ho : ∀ o ∈ os, opB (N : Int) o.1 o.2 = true) {s : List Int × Bool} (h : PId N s.1) : ∃ t, clR (N : Int) (N : Int) (os.zip os) s = some t ∧ PId N t.1 := by
  refine PId.fold _ h fun p hp s hs => ?_
  have hpp : p.1 = p.2 ∧ p.1 ∈ os := by
    obtain ⟨i, hi, e⟩ := List.getElem_of_mem hp
    rw [List.getElem_zip] at e
    subst e
    exact ⟨rfl, List.getElem_mem _⟩
  rw [clO]
  refine PId.fold _ hs fun i hi s hs => ?_
  have hil : i < p.1.2.length := by simpa using List.mem_range'_1.1 hi
  rw [← hpp.1]
  exact hs.clS h1 (ho _ hpp.2) hil
theorem PId.into {N : Nat} {f : List Int} (h : PId N f) : intoB f = true := by
  rw [intoB, List.all_eq_true]
  intro i hi
  have hi := List.mem_range.1 hi
  have e : f.getD i 0 = f[i] := by rw [List.getD_eq_getElem?_getD, List.getElem?_eq_getElem hi]; rfl
  rw [intoAt, e]
  simp only [Bool.not_eq_true', Bool.and_eq_false_iff, decide_eq_false_iff_not]
  rcases h.2 i hi with h1 | h1
  · exact .inl (by omega)
  · refine .inr fun hm => ?_
    obtain ⟨j, hj, e2⟩ := List.mem_take_iff_getElem.1 hm
    have h2 := h.2 j (by omega)
    omega
theorem PId.clF {N : Nat} {os : List (Int × List Int)} (h1 : 1 ≤ N) (ho : ∀ o ∈ os, opB (N : Int) o.1 o.2 = true) (hp : PrsOk (N : Int) N (os.zip os)) : ∀ (k : Nat) {f : List Int}, PId N f → MapOk (N : Int) N f → opens f < k → ∃ g, clF (N : Int) (N : Int) (os.zip os) k f = some g ∧ PId N g
  | 0, f, _, _, h => by omega
  | k + 1, f, h, hm, hk => by
    obtain ⟨t, h2, h3⟩ := PId.clR h1 ho (s := (f, false)) h
    have hc := clsR hp (s := (f, false)) hm h2
    rw [clF_succ h2]
    cases ht : t.2 with
    | false => exact ⟨t.1, by simp, h3⟩
    | true =>
      have h4 : opens t.1 < opens f := by
        rcases hc.lt ht with h5 | h5
        · cases h5
        · exact h5
      rw [if_pos rfl]
      exact PId.clF h1 ho hp k h3 hc.ok (by omega)
theorem PId.fit {N : Nat} {os : List (Int × List Int)} (h1 : 1 ≤ N) (ho : ∀ o ∈ os, opB (N : Int) o.1 o.2 = true) (hp : PrsOk (N : Int) N (os.zip os)) (into : Bool) {f : List Int} (h : PId N f) (hm : MapOk (N : Int) N f) : ∃ g, fitF (N : Int) (N : Int) (os.zip os) into f = some g ∧ PId N g := by
  have hle : opens f ≤ f.length := List.countP_le_length
  obtain ⟨g, h2, h3⟩ := PId.clF h1 ho hp (N + 1) h hm (by have := h.1; omega)
  refine ⟨g, ?_, h3⟩
  rw [fitF, Int.toNat_natCast, h2]
  dsimp only
  rw [h3.into, Bool.not_true, Bool.and_false, if_neg (by decide)]
/-- a search goes on: it counts up and its list grows -/
def SLe (s t : SSt) : Prop := s.1 ≤ t.1 ∧ s.2 <+: t.2
theorem SLe.refl (s : SSt) : SLe s s := ⟨Nat.le_refl _, List.prefix_refl _⟩
theorem SLe.trans {s t u : SSt} (h : SLe s t) (k : SLe t u) : SLe s u := ⟨Nat.le_trans h.1 k.1, h.2.trans k.2⟩
theorem srS_le {go : List Int → SSt → SSt} (hg : ∀ f s, SLe s (go f s)) (fit : List Int → Option (List Int)) (most : Nat) (f : List Int) (x : Nat) (s : SSt) (y : Nat) : SLe s (srS go fit most f x s y) := by
  rw [srS]
  split
  · split
    · exact ⟨Nat.le_succ _, List.prefix_refl _⟩
    · cases fit (f.set x (y : Int)) with
      | none => exact ⟨Nat.le_succ _, List.prefix_refl _⟩
      | some g => exact (show SLe s (s.1 + 1, s.2) from ⟨Nat.le_succ _, List.prefix_refl _⟩).trans (hg g (s.1 + 1, s.2))
  · exact .refl s
theorem fold_le {go : List Int → SSt → SSt} (hg : ∀ f s, SLe s (go f s)) (fit : List Int → Option (List Int)) (most : Nat) (f : List Int) (x : Nat) : ∀ (l : List Nat) (s : SSt), SLe s (l.foldl (srS go fit most f x) s)
  | [], s => .refl s
  | y :: l, s => (srS_le hg fit most f x s y).trans (fold_le hg fit most f x l _)
theorem srF_le (fit : List Int → Option (List Int)) (good : List Int → Bool) (most n2 : Nat) : ∀ (d : Nat) (f : List Int) (s : SSt), SLe s (srF fit good most n2 d f s)
  | 0, _, s => .refl s
  | d + 1, f, s => by
    rw [srF]
    split
    · refine ⟨Nat.le_refl _, ?_⟩
      dsimp only
      split
      · exact List.prefix_append _ _
      · exact List.prefix_refl _
    · exact fold_le (srF_le fit good most n2 d) fit most f _ _ s
theorem PId.srF {N : Nat} {os : List (Int × List Int)} (h1 : 1 ≤ N) (ho : ∀ o ∈ os, opB (N : Int) o.1 o.2 = true) (hp : PrsOk (N : Int) N (os.zip os)) (into : Bool) : ∀ (d : Nat) (f : List Int) (s : SSt), PId N f → MapOk (N : Int) N f → opens f < d →
    (Go.Proofs.Ytejeeokjjbiadaa.srF (fitF (N : Int) N (os.zip os) into) (fun _ => true) 301 N d f s).1 ≤ 5000 → (Go.Proofs.Ytejeeokjjbiadaa.srF (fitF (N : Int) N (os.zip os) into) (fun _ => true) 301 N d f s).2.length ≤ 300 → s.2.length < (Go.Proofs.Ytejeeokjjbiadaa.srF (fitF (N : Int) N (os.zip os) into) (fun _ => true) 301 N d f s).2.length
  | 0, f, s, _, _, h, _, _ => by omega
  | d + 1, f, s, hf, hm, hd, h5, h3 => by
    rw [Go.Proofs.Ytejeeokjjbiadaa.srF] at h5 h3 ⊢
    by_cases he : openAt f = f.length
    · rw [if_pos he] at h5 h3 ⊢
      simp
    · rw [if_neg he] at h5 h3 ⊢
      obtain ⟨hx, h0⟩ := opens_at he
      have hxN : openAt f < N := by have := hf.1; omega
      have hsplit : List.range' 0 N = List.range' 0 (openAt f) ++ openAt f :: List.range' (openAt f + 1) (N - openAt f - 1) := by
        have e : N = openAt f + ((N - openAt f - 1) + 1) := by omega
        conv => lhs; rw [e]
        rw [← List.range'_append_1, List.range'_succ, Nat.zero_add]
      rw [hsplit, List.foldl_append, List.foldl_cons] at h5 h3 ⊢
      have hle := srF_le (fitF (N : Int) N (os.zip os) into) (fun _ => true) 301 N d
      have k1 := fold_le hle (fitF (N : Int) N (os.zip os) into) 301 f (openAt f) (List.range' 0 (openAt f)) s
      generalize (List.range' 0 (openAt f)).foldl (srS (Go.Proofs.Ytejeeokjjbiadaa.srF (fitF (N : Int) N (os.zip os) into) (fun _ => true) 301 N d) (fitF (N : Int) N (os.zip os) into) 301 f (openAt f)) s = s1 at h5 h3 k1 ⊢
      have k2 := fold_le hle (fitF (N : Int) N (os.zip os) into) 301 f (openAt f) (List.range' (openAt f + 1) (N - openAt f - 1)) (srS (Go.Proofs.Ytejeeokjjbiadaa.srF (fitF (N : Int) N (os.zip os) into) (fun _ => true) 301 N d) (fitF (N : Int) N (os.zip os) into) 301 f (openAt f) s1 (openAt f))
      have k3 := srS_le hle (fitF (N : Int) N (os.zip os) into) 301 f (openAt f) s1 (openAt f)
      have l1 := k1.2.length_le
      have l2 := k2.2.length_le
      have l3 := k3.2.length_le
      have a1 := k1.1
      have a2 := k2.1
      have a3 := k3.1
      have hok : okS 301 s1 = true := by rw [okS, decide_eq_true_eq]; omega
      have hset := hf.set (openAt f)
      have hmset : MapOk (N : Int) N (f.set (openAt f) (openAt f : Int)) := hm.set (by omega) (by omega)
      obtain ⟨g, hg, hpg⟩ := PId.fit h1 ho hp into hset hmset
      obtain ⟨hmg, hog⟩ := fitF_ok hp hmset hg
      have hos := opens_set (w := (openAt f : Int)) hx h0 (by omega)
      have key : srS (Go.Proofs.Ytejeeokjjbiadaa.srF (fitF (N : Int) N (os.zip os) into) (fun _ => true) 301 N d) (fitF (N : Int) N (os.zip os) into) 301 f (openAt f) s1 (openAt f) = if 5000 < s1.1 + 1 then (s1.1 + 1, s1.2) else Go.Proofs.Ytejeeokjjbiadaa.srF (fitF (N : Int) N (os.zip os) into) (fun _ => true) 301 N d g (s1.1 + 1, s1.2) := by
        rw [srS, if_pos hok, hg]
      by_cases hbig : 5000 < s1.1 + 1
      · rw [if_pos hbig] at key
        have k4 : (srS (Go.Proofs.Ytejeeokjjbiadaa.srF (fitF (N : Int) N (os.zip os) into) (fun _ => true) 301 N d) (fitF (N : Int) N (os.zip os) into) 301 f (openAt f) s1 (openAt f)).1 = s1.1 + 1 := by rw [key]
        omega
      · rw [if_neg hbig] at key
        have ih := PId.srF h1 ho hp into d g (s1.1 + 1, s1.2) hpg hmg (by omega)
        rw [← key] at ih
        have := ih (by omega) (by omega)
        simp only at this
        omega
theorem homS_id {N : Nat} {os : List (Int × List Int)} (h1 : 1 ≤ N) (ho : ∀ o ∈ os, opB (N : Int) o.1 o.2 = true) (hp : PrsOk (N : Int) N (os.zip os)) (into : Bool) (h5 : (homS (N : Int) os (N : Int) os into (fun _ => true) 301).1 ≤ 5000) (h3 : (homS (N : Int) os (N : Int) os into (fun _ => true) 301).2.length ≤ 300) : (homS (N : Int) os (N : Int) os into (fun _ => true) 301).2 ≠ [] := by
  have h0 : PId N (List.replicate N (-1)) := ⟨by simp, fun i hi => .inl (by simp)⟩
  have hm := mapNew N N
  obtain ⟨g, hg, hpg⟩ := PId.fit h1 ho hp into h0 hm
  obtain ⟨hmg, hog⟩ := fitF_ok hp hm hg
  have hle : opens g ≤ g.length := List.countP_le_length
  rw [homS_eq, hg] at h5 h3 ⊢
  have := PId.srF h1 ho hp into (N + 1) g (0, []) hpg hmg (by have := hpg.1; omega) h5 h3
  intro e
  rw [e] at this
  simp at this
end Go.Proofs.Ytejeeokjjbiadaa
