/- Homomorphisms, the plain law: closing a partial map, the search. No program in sight; no conditions but those that are told. -/
import Derived.Test.YtejeeokjjbiadaaRowFn
import Derived.Test.YtejeeokjjbiadaaRelB
import Derived.Test.YtejeeokjjbiadaaAlg
namespace Go.Proofs.Ytejeeokjjbiadaa
open Go Go.Proofs
set_option linter.unusedVariables false

/-- the images of numbers -/
def imL (f ds : List Int) : List Int := ds.map fun x => f.getD x.toNat 0
theorem imL_length (f ds : List Int) : (imL f ds).length = ds.length := by simp [imL]
theorem imL_succ (f ds : List Int) (j : Nat) (h : j < ds.length) (hx : (ds[j]).toNat < f.length) : imL f (ds.take (j + 1)) = imL f (ds.take j) ++ [f[(ds[j]).toNat]] := by
  simp only [imL]
  rw [List.take_add_one, List.getElem?_eq_getElem h, List.map_append]
  simp [List.getD_eq_getElem?_getD, List.getElem?_eq_getElem hx]
def openB (l : List Int) : Bool := l.any fun x => decide (x < 0)
theorem pw_pos' (n : Int) (h : 1 ≤ n) : ∀ k, 1 ≤ pw n k
  | 0 => by simp [pw]
  | k + 1 => by
    have h1 := pw_pos' n h k
    have h2 : 1 * 1 ≤ pw n k * n := Int.mul_le_mul h1 h (by decide) (by omega)
    simp only [pw]; omega
theorem hor_shift (n : Int) : ∀ (l : List Int) (a : Int), l.foldl (fun acc x => acc * n + x) a = a * pw n l.length + hor n l
  | [], a => by simp [hor, pw]
  | x :: l, a => by
    have e : pw n (l.length + 1) = n * pw n l.length := Int.mul_comm _ _
    have e2 : hor n (x :: l) = x * pw n l.length + hor n l := by
      show List.foldl _ (0 * n + x) l = _
      rw [hor_shift n l, Int.zero_mul, Int.zero_add]
    rw [List.foldl_cons, hor_shift n l, e2, List.length_cons, e, Int.add_mul, Int.mul_assoc]
    omega
theorem hor_cons (n x : Int) (l : List Int) : hor n (x :: l) = x * pw n l.length + hor n l := by
  rw [hor, List.foldl_cons, hor_shift]; simp
/-- what a pair of operations needs -/
structure PrOk (n n2 : Int) (o o2 : Int × List Int) : Prop where
  n1 : 1 ≤ n
  n8 : n ≤ 8
  m1 : 1 ≤ n2
  m8 : n2 ≤ 8
  a0 : 0 ≤ o.1
  a3 : o.1 ≤ 3
  ar : o2.1 = o.1
  tab : (o.2.length : Int) = pw n o.1.toNat
  el : elB n o.2 = true
  tab2 : (o2.2.length : Int) = pw n2 o.1.toNat
  el2 : elB n2 o2.2 = true
/-- a partial map -/
structure MapOk (n n2 : Int) (f : List Int) : Prop where
  len : (f.length : Int) = n
  rng : ∀ x ∈ f, -1 ≤ x ∧ x < n2
theorem MapOk.at {n n2 : Int} {f : List Int} (h : MapOk n n2 f) {i : Nat} (hi : i < f.length) : -1 ≤ f[i] ∧ f[i] < n2 := h.rng _ (List.getElem_mem hi)
theorem MapOk.set {n n2 : Int} {f : List Int} (h : MapOk n n2 f) {v : Nat} {w : Int} (h0 : -1 ≤ w) (h1 : w < n2) : MapOk n n2 (f.set v w) :=
  ⟨by rw [List.length_set]; exact h.len, fun x hx => by
    rcases List.mem_or_eq_of_mem_set hx with h2 | rfl
    · exact h.rng x h2
    · exact ⟨h0, h1⟩⟩
theorem imL_rng {n n2 : Int} {f : List Int} (h : MapOk n n2 f) {ds : List Int} (hd : ∀ x ∈ ds, 0 ≤ x ∧ x < n) : ∀ y ∈ imL f ds, -1 ≤ y ∧ y < n2 := fun y hy => by
  obtain ⟨x, hx, rfl⟩ := List.mem_map.1 hy
  have h1 := hd x hx
  have h2 := h.len
  rw [List.getD_eq_getElem?_getD, List.getElem?_eq_getElem (show x.toNat < f.length by omega)]
  exact h.at _
theorem openB_has {l : List Int} (h : ∀ y ∈ l, -1 ≤ y) : openB l = decide ((-1 : Int) ∈ l) := by
  rw [Bool.eq_iff_iff, openB, List.any_eq_true, decide_eq_true_eq]
  constructor
  · rintro ⟨x, hx, h1⟩
    have h2 := h x hx
    have h3 : x < 0 := by simpa using h1
    obtain rfl : x = -1 := by omega
    exact hx
  · exact fun h1 => ⟨-1, h1, by decide⟩
theorem openB_el {n2 : Int} {l : List Int} (h : ∀ y ∈ l, -1 ≤ y ∧ y < n2) (ho : openB l = false) : elB n2 l = true := by
  rw [elB, List.all_eq_true]
  intro x hx
  have h1 := h x hx
  rw [openB, List.any_eq_false] at ho
  have h2 := ho x hx
  simp only [decide_eq_true_eq] at h2 ⊢
  omega
theorem digits {n : Int} (hn : 1 ≤ n) (i k : Nat) : ∀ x ∈ lowd (i : Int) n k, 0 ≤ x ∧ x < n := fun x hx => by
  have : ∀ (k : Nat), ∀ x ∈ lowd (i : Int) n k, 0 ≤ x ∧ x < n := fun k => by
    induction k with
    | zero => intro x hx; cases hx
    | succ k ih =>
      intro x hx
      rcases List.mem_cons.1 hx with rfl | hx
      · exact ⟨Int.emod_nonneg _ (by omega), Int.emod_lt_of_pos _ (by omega)⟩
      · exact ih x hx
  exact this k x hx

/-! ### closing -/
/-- the images of the arguments of an index -/
abbrev imA (n : Int) (o : Int × List Int) (f : List Int) (i : Nat) : List Int := imL f (lowd (i : Int) n o.1.toNat)
def clV (n n2 : Int) (o o2 : Int × List Int) (f : List Int) (i : Nat) : Int := o2.2.getD (hor n2 (imA n o f i)).toNat 0
def clS (n n2 : Int) (o o2 : Int × List Int) (s : List Int × Bool) (i : Nat) : Option (List Int × Bool) :=
  if openB (imA n o s.1 i) then some s
  else if s.1.getD (o.2.getD i 0).toNat 0 < 0 then some (s.1.set (o.2.getD i 0).toNat (clV n n2 o o2 s.1 i), true)
  else if s.1.getD (o.2.getD i 0).toNat 0 = clV n n2 o o2 s.1 i then some s else none
def clO (n n2 : Int) (s : List Int × Bool) (p : (Int × List Int) × (Int × List Int)) : Option (List Int × Bool) := (List.range' 0 p.1.2.length).foldlM (clS n n2 p.1 p.2) s
def clR (n n2 : Int) (ps : List ((Int × List Int) × (Int × List Int))) (s : List Int × Bool) : Option (List Int × Bool) := ps.foldlM (clO n n2) s
def clF (n n2 : Int) (ps : List ((Int × List Int) × (Int × List Int))) : Nat → List Int → Option (List Int)
  | 0, _ => none
  | k + 1, f => match clR n n2 ps (f, false) with
    | none => none
    | some s => if s.2 then clF n n2 ps k s.1 else some s.1
def opens (f : List Int) : Nat := f.countP fun x => decide (x < 0)
theorem opens_set {f : List Int} {v : Nat} {w : Int} (hv : v < f.length) (h0 : f[v] < 0) (hw : 0 ≤ w) : opens (f.set v w) + 1 = opens f := by
  have h1 := List.countP_set (p := fun x : Int => decide (x < 0)) (a := w) hv
  have h2 : 0 < f.countP fun x : Int => decide (x < 0) := List.countP_pos_iff.2 ⟨f[v], List.getElem_mem hv, by simpa using h0⟩
  have h3 : decide (f[v] < 0) = true := by simpa using h0
  have h4 : decide (w < 0) = false := by simp; omega
  simp only [h3, h4, if_true] at h1
  simp only [opens]
  simp at h1
  omega
/-- what a step does -/
theorem PrOk.step {n n2 : Int} {o o2 : Int × List Int} (h : PrOk n n2 o o2) {f : List Int} (hf : MapOk n n2 f) {i : Nat} (hi : i < o.2.length) :
    (∀ y ∈ imA n o f i, -1 ≤ y ∧ y < n2) ∧ 0 ≤ o.2[i] ∧ (o.2[i]).toNat < f.length := by
  have h1 := imL_rng hf (digits h.n1 i o.1.toNat)
  have h2 := h.el
  rw [elB, List.all_eq_true] at h2
  have h3 := h2 _ (List.getElem_mem hi)
  simp only [decide_eq_true_eq] at h3
  have h4 := hf.len
  exact ⟨h1, h3.1, by omega⟩
theorem PrOk.val {n n2 : Int} {o o2 : Int × List Int} (h : PrOk n n2 o o2) {f : List Int} (hf : MapOk n n2 f) {i : Nat} (ho : openB (imA n o f i) = false) :
    0 ≤ hor n2 (imA n o f i) ∧ hor n2 (imA n o f i) < 4096 ∧ ∃ hl : (hor n2 (imA n o f i)).toNat < o2.2.length, clV n n2 o o2 f i = o2.2[(hor n2 (imA n o f i)).toNat] ∧ 0 ≤ o2.2[(hor n2 (imA n o f i)).toNat] ∧ o2.2[(hor n2 (imA n o f i)).toNat] < n2 := by
  have h1 := imL_rng hf (digits h.n1 i o.1.toNat)
  have h2 := openB_el h1 ho
  have h3 := hor_bound n2 (by have := h.m1; omega) _ h2 (imA n o f i).length (Nat.le_refl _)
  rw [show imL f (lowd (i : Int) n o.1.toNat) = imA n o f i from rfl, List.take_length] at h3
  have h4 : (imA n o f i).length = o.1.toNat := by rw [imA, imL_length, lowd_length]
  rw [h4] at h3
  have h5 := h.tab2
  have h6 := pw_512' n2 h.m1 h.m8 o.1.toNat (by have := h.a3; omega)
  have hl : (hor n2 (imA n o f i)).toNat < o2.2.length := by omega
  have h7 := h.el2
  rw [elB, List.all_eq_true] at h7
  have h8 := h7 _ (List.getElem_mem hl)
  simp only [decide_eq_true_eq] at h8
  exact ⟨h3.1, by omega, hl, by rw [clV, List.getD_eq_getElem?_getD, List.getElem?_eq_getElem hl]; rfl, h8.1, h8.2⟩
theorem clS_open {n n2 : Int} {o o2 : Int × List Int} {s : List Int × Bool} {i : Nat} (h : openB (imA n o s.1 i) = true) : clS n n2 o o2 s i = some s := by
  rw [clS, h]; rfl
theorem clS_set {n n2 : Int} {o o2 : Int × List Int} {f : List Int} {c : Bool} {i : Nat} (h : openB (imA n o f i) = false) (hi : i < o.2.length) (hv : (o.2[i]).toNat < f.length) (h0 : f[(o.2[i]).toNat] < 0) :
    clS n n2 o o2 (f, c) i = some (f.set (o.2[i]).toNat (clV n n2 o o2 f i), true) := by
  have e : o.2.getD i 0 = o.2[i] := by rw [List.getD_eq_getElem?_getD, List.getElem?_eq_getElem hi]; rfl
  have e2 : f.getD (o.2[i]).toNat 0 = f[(o.2[i]).toNat] := by rw [List.getD_eq_getElem?_getD, List.getElem?_eq_getElem hv]; rfl
  rw [clS, h]
  simp only [e, e2]
  rw [if_neg (by decide), if_pos h0]
theorem clS_same {n n2 : Int} {o o2 : Int × List Int} {f : List Int} {c : Bool} {i : Nat} (h : openB (imA n o f i) = false) (hi : i < o.2.length) (hv : (o.2[i]).toNat < f.length) (h0 : ¬ f[(o.2[i]).toNat] < 0) (he : f[(o.2[i]).toNat] = clV n n2 o o2 f i) :
    clS n n2 o o2 (f, c) i = some (f, c) := by
  have e : o.2.getD i 0 = o.2[i] := by rw [List.getD_eq_getElem?_getD, List.getElem?_eq_getElem hi]; rfl
  have e2 : f.getD (o.2[i]).toNat 0 = f[(o.2[i]).toNat] := by rw [List.getD_eq_getElem?_getD, List.getElem?_eq_getElem hv]; rfl
  rw [clS, h]
  simp only [e, e2]
  rw [if_neg (by decide), if_neg h0, if_pos he]
theorem clS_fail {n n2 : Int} {o o2 : Int × List Int} {f : List Int} {c : Bool} {i : Nat} (h : openB (imA n o f i) = false) (hi : i < o.2.length) (hv : (o.2[i]).toNat < f.length) (h0 : ¬ f[(o.2[i]).toNat] < 0) (he : ¬ f[(o.2[i]).toNat] = clV n n2 o o2 f i) :
    clS n n2 o o2 (f, c) i = none := by
  have e : o.2.getD i 0 = o.2[i] := by rw [List.getD_eq_getElem?_getD, List.getElem?_eq_getElem hi]; rfl
  have e2 : f.getD (o.2[i]).toNat 0 = f[(o.2[i]).toNat] := by rw [List.getD_eq_getElem?_getD, List.getElem?_eq_getElem hv]; rfl
  rw [clS, h]
  simp only [e, e2]
  rw [if_neg (by decide), if_neg h0, if_neg he]
/-- what lasts: a map stays a map; what was open may be closed -/
structure Cls (n n2 : Int) (s s' : List Int × Bool) : Prop where
  ok : MapOk n n2 s'.1
  le : opens s'.1 ≤ opens s.1
  lt : s'.2 = true → s.2 = true ∨ opens s'.1 < opens s.1
  keep : ∀ (v : Nat) (h : v < s.1.length) (h' : v < s'.1.length), 0 ≤ s.1[v] → s'.1[v] = s.1[v]
theorem Cls.refl {n n2 : Int} {s : List Int × Bool} (h : MapOk n n2 s.1) : Cls n n2 s s := ⟨h, Nat.le_refl _, fun h => .inl h, fun _ _ _ _ => rfl⟩
theorem Cls.trans {n n2 : Int} {s t u : List Int × Bool} (h0 : MapOk n n2 s.1) (h : Cls n n2 s t) (k : Cls n n2 t u) : Cls n n2 s u :=
  ⟨k.ok, Nat.le_trans k.le h.le, fun e => by
    rcases k.lt e with h1 | h1
    · rcases h.lt h1 with h2 | h2
      · exact .inl h2
      · exact .inr (Nat.lt_of_le_of_lt k.le h2)
    · exact .inr (Nat.lt_of_lt_of_le h1 h.le), fun v h1 h2 h3 => by
    have hl := h.ok.len
    have hl0 := h0.len
    have h4 := h.keep v h1 (by omega) h3
    rw [k.keep v (by omega) h2 (by rw [h4]; exact h3), h4]⟩
theorem PrOk.cls {n n2 : Int} {o o2 : Int × List Int} (h : PrOk n n2 o o2) {s s' : List Int × Bool} (hf : MapOk n n2 s.1) {i : Nat} (hi : i < o.2.length) (hs : clS n n2 o o2 s i = some s') : Cls n n2 s s' := by
  obtain ⟨f, c⟩ := s
  replace hf : MapOk n n2 f := hf
  obtain ⟨h1, h2, h3⟩ := h.step hf hi
  cases ho : openB (imA n o f i) with
  | true => rw [clS_open ho] at hs; cases hs; exact .refl hf
  | false =>
    obtain ⟨h4, _, hl, h5, h6, h7⟩ := h.val hf ho
    by_cases h8 : f[(o.2[i]).toNat] < 0
    · rw [clS_set ho hi h3 h8] at hs
      cases hs
      rw [h5]
      have h9 := opens_set h3 h8 h6
      refine ⟨hf.set (by omega) h7, by (try dsimp only); omega, fun _ => .inr (by (try dsimp only); omega), fun v hv hv' hv0 => ?_⟩
      (try dsimp only at hv0 ⊢)
      rw [List.getElem_set]
      split
      · rename_i e; subst e; omega
      · rfl
    · by_cases h9 : f[(o.2[i]).toNat] = clV n n2 o o2 f i
      · rw [clS_same ho hi h3 h8 h9] at hs; cases hs; exact .refl hf
      · rw [clS_fail ho hi h3 h8 h9] at hs; cases hs
theorem foldlM_cls {β : Type} {n n2 : Int} {g : List Int × Bool → β → Option (List Int × Bool)} : ∀ {l : List β} {s s' : List Int × Bool}, (∀ s s' x, x ∈ l → MapOk n n2 s.1 → g s x = some s' → Cls n n2 s s') → MapOk n n2 s.1 → l.foldlM g s = some s' → Cls n n2 s s'
  | [], s, s', _, hf, h => by cases h; exact .refl hf
  | x :: l, s, s', hg, hf, h => by
    rw [List.foldlM_cons] at h
    cases e : g s x with
    | none => rw [e] at h; cases h
    | some t =>
      rw [e] at h
      have h1 := hg s t x (by simp) hf e
      exact h1.trans hf (foldlM_cls (fun s s' y hy => hg s s' y (by simp [hy])) h1.ok h)
theorem PrOk.clsO {n n2 : Int} {p : (Int × List Int) × (Int × List Int)} (h : PrOk n n2 p.1 p.2) {s s' : List Int × Bool} (hf : MapOk n n2 s.1) (hs : clO n n2 s p = some s') : Cls n n2 s s' :=
  foldlM_cls (fun s s' x hx hf hs => h.cls hf (by have := List.mem_range'.1 hx; omega) hs) hf hs
abbrev PrsOk (n n2 : Int) (ps : List ((Int × List Int) × (Int × List Int))) : Prop := ∀ p ∈ ps, PrOk n n2 p.1 p.2
theorem clsR {n n2 : Int} {ps : List ((Int × List Int) × (Int × List Int))} (h : PrsOk n n2 ps) {s s' : List Int × Bool} (hf : MapOk n n2 s.1) (hs : clR n n2 ps s = some s') : Cls n n2 s s' :=
  foldlM_cls (fun s s' x hx hf hs => (h x hx).clsO hf hs) hf hs
theorem clF_ok {n n2 : Int} {ps : List ((Int × List Int) × (Int × List Int))} (h : PrsOk n n2 ps) : ∀ {k : Nat} {f g : List Int}, MapOk n n2 f → clF n n2 ps k f = some g → MapOk n n2 g ∧ opens g ≤ opens f
  | 0, f, g, hf, hs => by cases hs
  | k + 1, f, g, hf, hs => by
    rw [clF] at hs
    cases e : clR n n2 ps (f, false) with
    | none => rw [e] at hs; cases hs
    | some s =>
      rw [e] at hs
      have h1 := clsR h (s := (f, false)) hf e
      dsimp only at hs
      cases e2 : s.2 with
      | true =>
        rw [e2, if_pos rfl] at hs
        obtain ⟨h2, h3⟩ := clF_ok h h1.ok hs
        exact ⟨h2, Nat.le_trans h3 h1.le⟩
      | false =>
        rw [e2, if_neg (by decide)] at hs
        cases hs
        exact ⟨h1.ok, h1.le⟩
theorem clF_succ {n n2 : Int} {ps : List ((Int × List Int) × (Int × List Int))} {k : Nat} {f : List Int} {s : List Int × Bool} (e : clR n n2 ps (f, false) = some s) : clF n n2 ps (k + 1) f = if s.2 then clF n n2 ps k s.1 else some s.1 := by
  rw [clF, e]
theorem clF_none {n n2 : Int} {ps : List ((Int × List Int) × (Int × List Int))} {k : Nat} {f : List Int} (e : clR n n2 ps (f, false) = none) : clF n n2 ps (k + 1) f = none := by
  rw [clF, e]

/-! ### the search -/
abbrev SSt := Nat × List (List Int)
def okS (most : Nat) (s : SSt) : Bool := decide (s.2.length < most ∧ s.1 ≤ 5000)
def srS (go : List Int → SSt → SSt) (fit : List Int → Option (List Int)) (most : Nat) (f : List Int) (x : Nat) (s : SSt) (y : Nat) : SSt :=
  if okS most s then
    if 5000 < s.1 + 1 then (s.1 + 1, s.2) else match fit (f.set x (y : Int)) with
      | none => (s.1 + 1, s.2)
      | some g => go g (s.1 + 1, s.2)
  else s
def openAt (f : List Int) : Nat := f.findIdx fun x => decide (x < 0)
def srF (fit : List Int → Option (List Int)) (good : List Int → Bool) (most n2 : Nat) : Nat → List Int → SSt → SSt
  | 0, _, s => s
  | d + 1, f, s => if openAt f = f.length then (s.1, if good f then s.2 ++ [f] else s.2)
    else (List.range' 0 n2).foldl (srS (srF fit good most n2 d) fit most f (openAt f)) s
/-- a search from the map in which all is open -/
def srch (fit : List Int → Option (List Int)) (good : List Int → Bool) (most : Nat) (n n2 : Nat) : SSt :=
  match fit (List.replicate n (-1)) with
  | none => (0, [])
  | some g => srF fit good most n2 (n + 1) g (0, [])
theorem srS_stop {go : List Int → SSt → SSt} {fit : List Int → Option (List Int)} {most : Nat} {f : List Int} {x : Nat} {s : SSt} (h : okS most s = false) : ∀ (l : List Nat), l.foldl (srS go fit most f x) s = s
  | [] => rfl
  | y :: l => by rw [List.foldl_cons, srS, h, if_neg (by decide), srS_stop h l]
theorem openAt_le (f : List Int) : openAt f ≤ f.length := List.findIdx_le_length
theorem openAt_lt {f : List Int} {i : Nat} (h : i < openAt f) : ∃ hi : i < f.length, ¬ f[i] < 0 := by
  have h1 := openAt_le f
  refine ⟨by omega, fun h2 => ?_⟩
  have := List.not_of_lt_findIdx (p := fun x : Int => decide (x < 0)) h
  simp at this
  omega
theorem openAt_none {f : List Int} (h : openAt f = f.length) : ∀ x ∈ f, 0 ≤ x := fun x hx => by
  have h1 := List.findIdx_eq_length.1 h x hx
  simp at h1; omega
theorem opens_at {f : List Int} (h : openAt f ≠ f.length) : ∃ hx : openAt f < f.length, f[openAt f] < 0 := by
  have h1 := openAt_le f
  have hx : openAt f < f.length := by omega
  refine ⟨hx, ?_⟩
  exact of_decide_eq_true (List.findIdx_getElem (p := fun x : Int => decide (x < 0)) (w := hx))

/-- no number but -1 stands twice -/
def intoAt (f : List Int) (i : Nat) : Bool := !(decide (0 ≤ f.getD i 0) && decide (f.getD i 0 ∈ f.take i))
def intoB (f : List Int) : Bool := (List.range f.length).all (intoAt f)
def ontoB (n2 : Nat) (f : List Int) : Bool := (List.range n2).all fun (x : Nat) => decide ((x : Int) ∈ f)
def fitF (n n2 : Int) (ps : List ((Int × List Int) × (Int × List Int))) (into : Bool) (f : List Int) : Option (List Int) :=
  match clF n n2 ps (n.toNat + 1) f with
  | none => none
  | some g => if into && !intoB g then none else some g
theorem fitF_ok {n n2 : Int} {ps : List ((Int × List Int) × (Int × List Int))} {into : Bool} (h : PrsOk n n2 ps) {f g : List Int} (hf : MapOk n n2 f) (hs : fitF n n2 ps into f = some g) : MapOk n n2 g ∧ opens g ≤ opens f := by
  rw [fitF] at hs
  cases e : clF n n2 ps (n.toNat + 1) f with
  | none => rw [e] at hs; cases hs
  | some g' =>
    rw [e] at hs
    dsimp only at hs
    split at hs
    · cases hs
    · cases hs; exact clF_ok h hf e
def alikeB (os os2 : List (Int × List Int)) : Bool := decide (os.map Prod.fst = os2.map Prod.fst)
def twoB (n : Int) (os : List (Int × List Int)) (n2 : Int) (os2 : List (Int × List Int)) : Bool := algB n os && algB n2 os2 && alikeB os os2
/-- a search that is asked for -/
def homS (n : Int) (os : List (Int × List Int)) (n2 : Int) (os2 : List (Int × List Int)) (into : Bool) (good : List Int → Bool) (most : Nat) : SSt :=
  srch (fitF n n2 (os.zip os2) into) good most n.toNat n2.toNat
theorem opB_fact {n : Int} {o : Int × List Int} (h : opB n o.1 o.2 = true) : 0 ≤ o.1 ∧ o.1 ≤ 3 ∧ (o.2.length : Int) = pw n o.1.toNat ∧ elB n o.2 = true := by
  simp only [opB, Bool.and_eq_true, decide_eq_true_eq] at h
  exact ⟨h.1.1, h.1.2, h.2.1, h.2.2⟩
theorem twoB_at {n : Int} {os : List (Int × List Int)} {n2 : Int} {os2 : List (Int × List Int)} (h : twoB n os n2 os2 = true) : algB n os = true ∧ algB n2 os2 = true ∧ os.map Prod.fst = os2.map Prod.fst := by
  simp only [twoB, alikeB, Bool.and_eq_true, decide_eq_true_eq] at h
  exact ⟨h.1.1, h.1.2, h.2⟩
theorem twoB_prs {n : Int} {os : List (Int × List Int)} {n2 : Int} {os2 : List (Int × List Int)} (h : twoB n os n2 os2 = true) : os2.length = os.length ∧ PrsOk n n2 (os.zip os2) := by
  obtain ⟨h1, h2, h3⟩ := twoB_at h
  have hl : os2.length = os.length := by have := congrArg List.length h3; simpa using this.symm
  refine ⟨hl, fun p hp => ?_⟩
  obtain ⟨a1, a8, _, ao⟩ := algB_at h1
  obtain ⟨b1, b8, _, bo⟩ := algB_at h2
  obtain ⟨i, hi, rfl⟩ := List.mem_iff_getElem.1 hp
  simp only [List.length_zip] at hi
  rw [List.getElem_zip]
  obtain ⟨c0, c3, ct, ce⟩ := opB_fact (ao _ (List.getElem_mem (show i < os.length by omega)))
  obtain ⟨d0, d3, dt, de⟩ := opB_fact (bo _ (List.getElem_mem (show i < os2.length by omega)))
  have e : (os2[i]'(by omega)).1 = (os[i]'(by omega)).1 := by
    have h4 : (os.map Prod.fst)[i]'(by simp; omega) = (os2.map Prod.fst)[i]'(by simp; omega) := by simp only [h3]
    simpa using h4.symm
  exact ⟨a1, a8, b1, b8, c0, c3, e, ct, ce, by rw [← e]; exact dt, de⟩
end Go.Proofs.Ytejeeokjjbiadaa
