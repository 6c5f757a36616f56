/- Homomorphisms, the plain law: closing a partial map, the search. No program in sight; no conditions but those that are told. -/
import Derived.Test.YtejeeokjjbiadaaRowFn
import Derived.Test.YtejeeokjjbiadaaRelB
import Derived.Test.YtejeeokjjbiadaaAlg
namespace Go.Proofs.Ytejeeokjjbiadaa
open Go Go.Proofs
set_option linter.unusedVariables false

/-- the images of numbers -/
def imL (f ds : List Int) : List Int := ds.map fun x => f.getD x.toNat 0
theorem imL_length (f ds : List Int) : (imL f ds).length = ds.length := by simp [imL]
def openB (l : List Int) : Bool := l.any fun x => decide (x < 0)
/-- what a pair of operations needs -/
structure PrOk (n n2 : Int) (o o2 : Int × List Int) : Prop where
  n1 : 1 ≤ n
  n8 : n ≤ 8
  m1 : 1 ≤ n2
  m8 : n2 ≤ 8
  a0 : 0 ≤ o.1
  a3 : o.1 ≤ 3
  ar : o2.1 = o.1
  tab : (o.2.length : Int) = pw n o.1.toNat
  el : elB n o.2 = true
  tab2 : (o2.2.length : Int) = pw n2 o.1.toNat
  el2 : elB n2 o2.2 = true
/-- a partial map -/
structure MapOk (n n2 : Int) (f : List Int) : Prop where
  len : (f.length : Int) = n
  rng : ∀ x ∈ f, -1 ≤ x ∧ x < n2
theorem MapOk.at {n n2 : Int} {f : List Int} (h : MapOk n n2 f) {i : Nat} (hi : i < f.length) : -1 ≤ f[i] ∧ f[i] < n2 := h.rng _ (List.getElem_mem hi)
theorem MapOk.set {n n2 : Int} {f : List Int} (h : MapOk n n2 f) {v : Nat} {w : Int} (h0 : -1 ≤ w) (h1 : w < n2) : MapOk n n2 (f.set v w) :=
  ⟨by rw [List.length_set]; exact h.len, fun x hx => by
    rcases List.mem_or_eq_of_mem_set hx with h2 | rfl
    · exact h.rng x h2
    · exact ⟨h0, h1⟩⟩
theorem imL_rng {n n2 : Int} {f : List Int} (h : MapOk n n2 f) {ds : List Int} (hd : ∀ x ∈ ds, 0 ≤ x ∧ x < n) : ∀ y ∈ imL f ds, -1 ≤ y ∧ y < n2 := fun y hy => by
  obtain ⟨x, hx, rfl⟩ := List.mem_map.1 hy
  have h1 := hd x hx
  have h2 := h.len
  rw [List.getD_eq_getElem?_getD, List.getElem?_eq_getElem (show x.toNat < f.length by omega)]
  exact h.at _
theorem openB_el {n2 : Int} {l : List Int} (h : ∀ y ∈ l, -1 ≤ y ∧ y < n2) (ho : openB l = false) : elB n2 l = true := by
  rw [elB, List.all_eq_true]
  intro x hx
  have h1 := h x hx
  rw [openB, List.any_eq_false] at ho
  have h2 := ho x hx
  simp only [decide_eq_true_eq] at h2 ⊢
  omega
theorem digits {n : Int} (hn : 1 ≤ n) (i k : Nat) : ∀ x ∈ lowd (i : Int) n k, 0 ≤ x ∧ x < n := fun x hx => by
  have : ∀ (k : Nat), ∀ x ∈ lowd (i : Int) n k, 0 ≤ x ∧ x < n := fun k => by
    induction k with
    | zero => intro x hx; cases hx
    | succ k ih =>
      intro x hx
      rcases List.mem_cons.1 hx with rfl | hx
      · exact ⟨Int.emod_nonneg _ (by omega), Int.emod_lt_of_pos _ (by omega)⟩
      · exact ih x hx
  exact this k x hx

/-! ### closing -/
/-- the images of the arguments of an index -/
abbrev imA (n : Int) (o : Int × List Int) (f : List Int) (i : Nat) : List Int := imL f (lowd (i : Int) n o.1.toNat)
def clV (n n2 : Int) (o o2 : Int × List Int) (f : List Int) (i : Nat) : Int := o2.2.getD (hor n2 (imA n o f i)).toNat 0
def clS (n n2 : Int) (o o2 : Int × List Int) (s : List Int × Bool) (i : Nat) : Option (List Int × Bool) :=
  if openB (imA n o s.1 i) then some s
  else if s.1.getD (o.2.getD i 0).toNat 0 < 0 then some (s.1.set (o.2.getD i 0).toNat (clV n n2 o o2 s.1 i), true)
  else if s.1.getD (o.2.getD i 0).toNat 0 = clV n n2 o o2 s.1 i then some s else none
def clO (n n2 : Int) (s : List Int × Bool) (p : (Int × List Int) × (Int × List Int)) : Option (List Int × Bool) := (List.range' 0 p.1.2.length).foldlM (clS n n2 p.1 p.2) s
def clR (n n2 : Int) (ps : List ((Int × List Int) × (Int × List Int))) (s : List Int × Bool) : Option (List Int × Bool) := ps.foldlM (clO n n2) s
def clF (n n2 : Int) (ps : List ((Int × List Int) × (Int × List Int))) : Nat → List Int → Option (List Int)
  | 0, _ => none
  | k + 1, f => match clR n n2 ps (f, false) with
    | none => none
    | some s => if s.2 then clF n n2 ps k s.1 else some s.1
def opens (f : List Int) : Nat := f.countP fun x => decide (x < 0)
/-- what a step does -/
theorem PrOk.step {n n2 : Int} {o o2 : Int × List Int} (h : PrOk n n2 o o2) {f : List Int} (hf : MapOk n n2 f) {i : Nat} (hi : i < o.2.length) :
    (∀ y ∈ imA n o f i, -1 ≤ y ∧ y < n2) ∧ 0 ≤ o.2[i] ∧ (o.2[i]).toNat < f.length := by
  have h1 := imL_rng hf (digits h.n1 i o.1.toNat)
  have h2 := h.el
  rw [elB, List.all_eq_true] at h2
  have h3 := h2 _ (List.getElem_mem hi)
  simp only [decide_eq_true_eq] at h3
  have h4 := hf.len
  exact ⟨h1, h3.1, by omega⟩
theorem PrOk.val {n n2 : Int} {o o2 : Int × List Int} (h : PrOk n n2 o o2) {f : List Int} (hf : MapOk n n2 f) {i : Nat} (ho : openB (imA n o f i) = false) :
    0 ≤ hor n2 (imA n o f i) ∧ hor n2 (imA n o f i) < 4096 ∧ ∃ hl : (hor n2 (imA n o f i)).toNat < o2.2.length, clV n n2 o o2 f i = o2.2[(hor n2 (imA n o f i)).toNat] ∧ 0 ≤ o2.2[(hor n2 (imA n o f i)).toNat] ∧ o2.2[(hor n2 (imA n o f i)).toNat] < n2 := by
  have h1 := imL_rng hf (digits h.n1 i o.1.toNat)
  have h2 := openB_el h1 ho
  have h3 := hor_bound n2 (by have := h.m1; omega) _ h2 (imA n o f i).length (Nat.le_refl _)
  rw [show imL f (lowd (i : Int) n o.1.toNat) = imA n o f i from rfl, List.take_length] at h3
  have h4 : (imA n o f i).length = o.1.toNat := by rw [imA, imL_length, lowd_length]
  rw [h4] at h3
  have h5 := h.tab2
  have h6 := pw_512' n2 h.m1 h.m8 o.1.toNat (by have := h.a3; omega)
  have hl : (hor n2 (imA n o f i)).toNat < o2.2.length := by omega
  have h7 := h.el2
  rw [elB, List.all_eq_true] at h7
  have h8 := h7 _ (List.getElem_mem hl)
  simp only [decide_eq_true_eq] at h8
  exact ⟨h3.1, by omega, hl, by rw [clV, List.getD_eq_getElem?_getD, List.getElem?_eq_getElem hl]; rfl, h8.1, h8.2⟩
/-- what lasts: a map stays a map; what was open may be closed -/
structure Cls (n n2 : Int) (s s' : List Int × Bool) : Prop where
  ok : MapOk n n2 s'.1
  le : opens s'.1 ≤ opens s.1
  lt : s'.2 = true → s.2 = true ∨ opens s'.1 < opens s.1
  keep : ∀ (v : Nat) (h : v < s.1.length) (h' : v < s'.1.length), 0 ≤ s.1[v] → s'.1[v] = s.1[v]
theorem Cls.refl {n n2 : Int} {s : List Int × Bool} (h : MapOk n n2 s.1) : Cls n n2 s s := ⟨h, Nat.le_refl _, fun h => .inl h, fun _ _ _ _ => rfl⟩
theorem Cls.trans {n n2 : Int} {s t u : List Int × Bool} (h0 : MapOk n n2 s.1) (h : Cls n n2 s t) (k : Cls n n2 t u) : Cls n n2 s u :=
  ⟨k.ok, Nat.le_trans k.le h.le, fun e => by
    rcases k.lt e with h1 | h1
    · rcases h.lt h1 with h2 | h2
      · exact .inl h2
      · exact .inr (Nat.lt_of_le_of_lt k.le h2)
    · exact .inr (Nat.lt_of_lt_of_le h1 h.le), fun v h1 h2 h3 => by
    have hl := h.ok.len
    have hl0 := h0.len
    have h4 := h.keep v h1 (by omega) h3
    rw [k.keep v (by omega) h2 (by rw [h4]; exact h3), h4]⟩
/-! ### the search -/
end Go.Proofs.Ytejeeokjjbiadaa
