/- The search for a row that is good, in plain terms: rows are added round by round until one is good or there are too many. No program in sight. -/
import Derived.Test.YtiifdhdhjioefaaMalR
import Derived.Test.YtiifdhdhjioefaaCloneI
namespace Go.Proofs.Ytiifdhdhjioefaa
open Go Go.Proofs
set_option linter.unusedVariables false
/-- rows and steps, compositions tried, state: 2 going on, 1 found, 3 too many -/
abbrev QS := CS × Nat × Int
def addQ (G : List Int → Bool) (s : QS) (t : List Int) (sp : Int × List Int) : QS :=
  if s.2.2 = 2 then (if t ∈ s.1.1 then s else if s.1.1.length = 150 then (s.1, s.2.1, 3) else ((s.1.1 ++ [t], s.1.2 ++ [sp]), s.2.1, if G t = true then 1 else 2)) else s
def stepQ (G : List Int → Bool) (n : Int) (size : Nat) (f : Int × List Int) (j K b : Nat) (s : QS) (i : Nat) : QS :=
  if s.2.2 = 2 then (if fresh K f.1.toNat b i = true then (if s.2.1 = 100000 then (s.1, s.2.1, 3) else addQ G (s.1, s.2.1 + 1, 2) (applyT n f.2 (chosen s.1.1 (lowd (i : Int) (K : Int) f.1.toNat)) size) ((j : Int), lowd (i : Int) (K : Int) f.1.toNat)) else s) else s
def opQ (G : List Int → Bool) (n : Int) (size K b : Nat) (s : QS) (p : (Int × List Int) × Nat) : QS := (List.range' 0 (many K p.1)).foldl (stepQ G n size p.1 p.2 K b) s
def rndQ (G : List Int → Bool) (n : Int) (size : Nat) (os : List (Int × List Int)) (K b : Nat) (s : QS) : QS := os.zipIdx.foldl (opQ G n size K b) s
def findQ (G : List Int → Bool) (n : Int) (size : Nat) (os : List (Int × List Int)) : Nat → QS → Nat → QS
  | 0, s, _ => s
  | f + 1, s, b => if s.2.2 = 2 ∧ b < s.1.1.length then findQ G n size os f (rndQ G n size os s.1.1.length b s) s.1.1.length else s
def initQ (G : List Int → Bool) (F : List (List Int)) : Nat → QS
  | 0 => (([], []), 0, 2)
  | p + 1 => addQ G (initQ G F p) (F.getD p []) (-1, [(p : Int)])
theorem addQ_end {G : List Int → Bool} {s : QS} {t : List Int} {sp : Int × List Int} (h : ¬ s.2.2 = 2) : addQ G s t sp = s := by rw [addQ, if_neg h]
theorem addQ_old {G : List Int → Bool} {s : QS} {t : List Int} {sp : Int × List Int} (h : t ∈ s.1.1) : addQ G s t sp = s := by
  by_cases h1 : s.2.2 = 2
  · rw [addQ, if_pos h1, if_pos h]
  · exact addQ_end h1
theorem addQ_full {G : List Int → Bool} {s : QS} {t : List Int} {sp : Int × List Int} (h : s.2.2 = 2) (h1 : ¬ t ∈ s.1.1) (h2 : s.1.1.length = 150) : addQ G s t sp = (s.1, s.2.1, 3) := by rw [addQ, if_pos h, if_neg h1, if_pos h2]
theorem addQ_new {G : List Int → Bool} {s : QS} {t : List Int} {sp : Int × List Int} (h : s.2.2 = 2) (h1 : ¬ t ∈ s.1.1) (h2 : ¬ s.1.1.length = 150) : addQ G s t sp = ((s.1.1 ++ [t], s.1.2 ++ [sp]), s.2.1, if G t = true then 1 else 2) := by rw [addQ, if_pos h, if_neg h1, if_neg h2]
theorem stepQ_end {G : List Int → Bool} {n : Int} {size : Nat} {f : Int × List Int} {j K b : Nat} {s : QS} {i : Nat} (h : ¬ s.2.2 = 2) : stepQ G n size f j K b s i = s := by rw [stepQ, if_neg h]
theorem stepQ_skip {G : List Int → Bool} {n : Int} {size : Nat} {f : Int × List Int} {j K b : Nat} {s : QS} {i : Nat} (h : fresh K f.1.toNat b i = false) : stepQ G n size f j K b s i = s := by
  rw [stepQ, h]; split <;> rfl
theorem stepQ_many {G : List Int → Bool} {n : Int} {size : Nat} {f : Int × List Int} {j K b : Nat} {s : QS} {i : Nat} (h : s.2.2 = 2) (h1 : fresh K f.1.toNat b i = true) (h2 : s.2.1 = 100000) : stepQ G n size f j K b s i = (s.1, s.2.1, 3) := by rw [stepQ, if_pos h, if_pos h1, if_pos h2]
theorem stepQ_add {G : List Int → Bool} {n : Int} {size : Nat} {f : Int × List Int} {j K b : Nat} {s : QS} {i : Nat} (h : s.2.2 = 2) (h1 : fresh K f.1.toNat b i = true) (h2 : ¬ s.2.1 = 100000) :
    stepQ G n size f j K b s i = addQ G (s.1, s.2.1 + 1, 2) (applyT n f.2 (chosen s.1.1 (lowd (i : Int) (K : Int) f.1.toNat)) size) ((j : Int), lowd (i : Int) (K : Int) f.1.toNat) := by rw [stepQ, if_pos h, if_pos h1, if_neg h2]
theorem foldQ_end {α : Type} {g : QS → α → QS} (hg : ∀ s x, ¬ s.2.2 = 2 → g s x = s) : ∀ (l : List α) (s : QS), ¬ s.2.2 = 2 → l.foldl g s = s
  | [], s, h => rfl
  | x :: l, s, h => by rw [List.foldl_cons, hg s x h]; exact foldQ_end hg l s h
theorem opQ_end {G : List Int → Bool} {n : Int} {size K b : Nat} {s : QS} {p : (Int × List Int) × Nat} (h : ¬ s.2.2 = 2) : opQ G n size K b s p = s := foldQ_end (fun _ _ h => stepQ_end h) _ _ h
theorem findQ_end {G : List Int → Bool} {n : Int} {size : Nat} {os : List (Int × List Int)} {f : Nat} {s : QS} {b : Nat} (h : ¬ (s.2.2 = 2 ∧ b < s.1.1.length)) : findQ G n size os f s b = s := by
  cases f with
  | zero => rfl
  | succ f => rw [findQ, if_neg h]
theorem findQ_go {G : List Int → Bool} {n : Int} {size : Nat} {os : List (Int × List Int)} {f : Nat} {s : QS} {b : Nat} (h : s.2.2 = 2) (h1 : b < s.1.1.length) : findQ G n size os (f + 1) s b = findQ G n size os f (rndQ G n size os s.1.1.length b s) s.1.1.length := by rw [findQ, if_pos ⟨h, h1⟩]
/-- what holds of what was found -/
structure QInv (n : Int) (size : Nat) (s : QS) : Prop where
  inv : CInv n size s.1
  few : s.1.1.length ≤ 150
  tr : s.2.1 ≤ 100000
  st : s.2.2 = 1 ∨ s.2.2 = 2 ∨ s.2.2 = 3
theorem QInv.add {n : Int} {size : Nat} {s : QS} (h : QInv n size s) {G : List Int → Bool} {t : List Int} {sp : Int × List Int} (ht : t.length = size) (he : elB n t = true) : QInv n size (addQ G s t sp) := by
  by_cases h1 : s.2.2 = 2
  · by_cases h2 : t ∈ s.1.1
    · rw [addQ_old h2]; exact h
    · by_cases h3 : s.1.1.length = 150
      · rw [addQ_full h1 h2 h3]
        exact ⟨h.inv, h.few, h.tr, .inr (.inr rfl)⟩
      · rw [addQ_new h1 h2 h3]
        have hi := h.inv.add (st := sp) ht he
        rw [addC, if_neg h2] at hi
        refine ⟨hi, ?_, h.tr, ?_⟩
        · have := h.few
          simp only [List.length_append, List.length_singleton]; omega
        · cases G t <;> simp
  · rw [addQ_end h1]; exact h
theorem addQ_more (G : List Int → Bool) (s : QS) (t : List Int) (sp : Int × List Int) : s.1.1.length ≤ (addQ G s t sp).1.1.length := by
  unfold addQ
  split
  · split
    · exact Nat.le_refl _
    · split
      · exact Nat.le_refl _
      · simp
  · exact Nat.le_refl _
theorem initQ_inv {n : Int} {size : Nat} {F : List (List Int)} (hF : ∀ t ∈ F, t.length = size ∧ elB n t = true) (G : List Int → Bool) : ∀ p, p ≤ F.length → QInv n size (initQ G F p)
  | 0, _ => ⟨CInv.nil n size, Nat.zero_le _, Nat.zero_le _, .inr (.inl rfl)⟩
  | p + 1, hp => by
    have h1 := initQ_inv hF G p (by omega)
    have h2 := hF _ (List.getElem_mem (show p < F.length by omega))
    rw [initQ, List.getD_eq_getElem?_getD, List.getElem?_eq_getElem (show p < F.length by omega)]
    exact h1.add h2.1 h2.2
/-- the first row is kept -/
theorem initQ_pos {G : List Int → Bool} {F : List (List Int)} : ∀ p, 1 ≤ (initQ G F (p + 1)).1.1.length
  | 0 => by
    rw [initQ, initQ, addQ_new rfl (by simp) (by simp)]
    simp
  | p + 1 => by
    have h := initQ_pos (G := G) (F := F) p
    have h2 := addQ_more G (initQ G F (p + 1)) (F.getD (p + 1) []) (-1, [((p + 1 : Nat) : Int)])
    rw [initQ]; omega
/-- a search that has ended does not go on -/
theorem initQ_end {G : List Int → Bool} {F : List (List Int)} {p : Nat} (h : ¬ (initQ G F p).2.2 = 2) : ∀ d, initQ G F (p + d) = initQ G F p
  | 0 => rfl
  | d + 1 => by
    have := initQ_end h d
    rw [← Nat.add_assoc, initQ, this, addQ_end h]
end Go.Proofs.Ytiifdhdhjioefaa

/- The search for a row that is good: (*impl.rowSearch).add. Proved for this program; conditions: rows of at most 192 places, elements below 8, at most 150 rows. -/
namespace Go.Proofs.Ytiifdhdhjioefaa
open Go Go.Proofs
set_option linter.unusedVariables false
abbrev qcells (bq : Nat) (n : Int) (os : List (Int × List Int)) (fv : Value) (s1 s2 : Sv) (bm : Nat) (tr st : Int) : HP := hcells bq [vint n, vsl 2 (fun y : Int × (List Int) => [vint y.1, vsl 1 (fun x : Int => [vint x]) y.2]) os, vlit fv, vlit (vsv s1), vlit (vsv s2), vmap bm, vint tr, vint st]
end Go.Proofs.Ytiifdhdhjioefaa

/- The search for a row that is good: (*impl.rowSearch).round. Proved for this program; conditions: rows of at most 192 places, elements below 8, at most 150 rows. -/
namespace Go.Proofs.Ytiifdhdhjioefaa
open Go Go.Proofs
set_option linter.unusedVariables false
theorem opAp' {n : Int} {size : Nat} {c : CS} (hc : CInv n size c) (h1 : 1 ≤ n) (h8 : n ≤ 8) (hsz : size ≤ 1048576) {a : Int} {tb : List Int} (ho : opB n a tb = true) {ns : List Int} (hl : ns.length = a.toNat) (hns : ∀ x ∈ ns, 0 ≤ x ∧ x.toNat < c.1.length) : ApOk n tb (chosen c.1 ns) size := by
  simp only [opB, Bool.and_eq_true, decide_eq_true_eq] at ho
  obtain ⟨⟨h0, h3⟩, h4, h5⟩ := ho
  have hcl : (chosen c.1 ns).length = a.toNat := by simp [chosen, hl]
  refine ⟨h1, h8, by omega, by rw [hcl]; exact h4, fun t ht => ?_, hsz⟩
  obtain ⟨x, hx, rfl⟩ := List.mem_map.1 ht
  have h2 := (hns x hx).2
  rw [List.getD_eq_getElem?_getD, List.getElem?_eq_getElem h2]
  obtain ⟨h6, h7⟩ := hc.row _ (List.getElem_mem h2)
  exact ⟨Nat.le_of_eq h6.symm, h7⟩
end Go.Proofs.Ytiifdhdhjioefaa

/- The search for a row that is good: impl.searchRows. Proved for this program; conditions: rows of at most 192 places, elements below 8, up to 3 first rows. -/
namespace Go.Proofs.Ytiifdhdhjioefaa
open Go Go.Proofs
set_option linter.unusedVariables false
/-- the search, from the first rows on -/
def seaQ (G : List Int → Bool) (n : Int) (size : Nat) (os : List (Int × List Int)) (F : List (List Int)) : QS := findQ G n size os 152 (initQ G F F.length) 0
theorem rndQ_inv {G : List Int → Bool} {n : Int} {size K b : Nat} {os : List (Int × List Int)} (ha : algB n os = true) (hsz : size ≤ 1048576) {s : QS} (hs : QInv n size s) (hK1 : 1 ≤ K) (hK : K ≤ s.1.1.length) : QInv n size (rndQ G n size os K b s) ∧ K ≤ (rndQ G n size os K b s).1.1.length := by
  obtain ⟨h1, h8, h4, hops⟩ := algB_at ha
  have hfold : ∀ {α : Type} (g : QS → α → QS) (l : List α), (∀ s x, x ∈ l → QInv n size s ∧ K ≤ s.1.1.length → QInv n size (g s x) ∧ K ≤ (g s x).1.1.length) → ∀ s, QInv n size s ∧ K ≤ s.1.1.length → QInv n size (l.foldl g s) ∧ K ≤ (l.foldl g s).1.1.length := by
    intro α g l
    induction l with
    | nil => intro _ s h; exact h
    | cons x l ih => intro hg s h; exact ih (fun s y hy => hg s y (by simp [hy])) _ (hg s x (by simp) h)
  refine hfold _ _ ?_ s ⟨hs, hK⟩
  intro s p hp hs
  have hfm : p.1 ∈ os := by
    obtain ⟨q, hq⟩ := List.mem_iff_getElem?.1 hp
    rw [List.getElem?_zipIdx] at hq
    cases h1 : os[q]? with
    | none => rw [h1] at hq; cases hq
    | some y => rw [h1] at hq; cases hq; exact List.mem_of_getElem? h1
  have hoj := hops _ hfm
  refine hfold _ _ ?_ s hs
  intro s i _ hs
  by_cases h2 : s.2.2 = 2
  · cases hf : fresh K p.1.1.toNat b i with
    | false => rw [stepQ_skip hf]; exact hs
    | true =>
      by_cases ht : s.2.1 = 100000
      · rw [stepQ_many h2 hf ht]
        exact ⟨⟨hs.1.inv, hs.1.few, hs.1.tr, .inr (.inr rfl)⟩, hs.2⟩
      · have hnum : ∀ x ∈ lowd (i : Int) (K : Int) p.1.1.toNat, 0 ≤ x ∧ x.toNat < s.1.1.length := fun x hx => by
          have := low_in (k := p.1.1.toNat) (i := i) hK1 x hx
          have := hs.2
          omega
        have hap := opAp' hs.1.inv h1 h8 hsz hoj (lowd_length _ _ _) hnum
        have htr := hs.1.tr
        have hQ : QInv n size (s.1, s.2.1 + 1, 2) := ⟨hs.1.inv, hs.1.few, by show s.2.1 + 1 ≤ 100000; omega, .inr (.inl rfl)⟩
        rw [stepQ_add h2 hf ht]
        exact ⟨hQ.add (applyT_length _ _ _ _) (applyT_el hap (opB_tab hoj)), Nat.le_trans hs.2 (addQ_more G (s.1, s.2.1 + 1, 2) _ _)⟩
  · rw [stepQ_end h2]; exact hs
end Go.Proofs.Ytiifdhdhjioefaa

/- The search for a term that obeys a condition: impl.searchTerm, FindTerm, RefutingRows. Proved for this program; conditions: lengths below 2^62. -/
namespace Go.Proofs.Ytiifdhdhjioefaa
open Go Go.Proofs
set_option linter.unusedVariables false
abbrev goodR (N : Nat) (rs : List (List Int × List Int)) (t : List Int) : Bool := rs.all (obRule N t (pats rs))
def seaV (N k0 size : Nat) (os : List (Int × List Int)) (rs : List (List Int × List Int)) : QS := seaQ (goodR N rs) (N : Int) (rowS N rs) os (fstR N k0 size (pats rs) k0)
abbrev JT (b2 b3 b5 : Nat) (N k0 : Nat) (os : List (Int × List Int)) (rs : List (List Int × List Int)) : HP := hstar (hstar (hcells b2 [vint (N : Int), vsl 2 (fun y : Int × (List Int) => [vint y.1, vsl 1 (fun x : Int => [vint x]) y.2]) os]) (hcells b3 [vint (k0 : Int), vsl 2 (fun y : (List Int) × (List Int) => [vsl 1 (fun x : Int => [vint x]) y.1, vsl 1 (fun x : Int => [vint x]) y.2]) rs])) (hcells b5 [vsl 1 (fun t : List Int => [vsl 1 (fun x : Int => [vint x]) t]) (pats rs)])
end Go.Proofs.Ytiifdhdhjioefaa

/- The search for a term that obeys a condition: impl.FindTerm, RefutingRows. Proved for this program; conditions: lengths below 2^62. -/
namespace Go.Proofs.Ytiifdhdhjioefaa
open Go Go.Proofs
set_option linter.unusedVariables false
def fndV (n : Int) (os : List (Int × List Int)) (a : Int) (rs : List (List Int × List Int)) : QS := if mayB n os a rs = true then seaV n.toNat a.toNat (pw n a.toNat).toNat os rs else (([], []), 0, 0)
theorem fndV_no {n : Int} {os : List (Int × List Int)} {a : Int} {rs : List (List Int × List Int)} (h : mayB n os a rs = false) : fndV n os a rs = (([], []), 0, 0) := by rw [fndV, h]; rfl
theorem fndV_yes {N k0 size : Nat} {os : List (Int × List Int)} {rs : List (List Int × List Int)} (h : mayB (N : Int) os (k0 : Int) rs = true) (hk : MalOk N k0 size os rs) : fndV (N : Int) os (k0 : Int) rs = seaV N k0 size os rs := by
  rw [fndV, if_pos h, Int.toNat_natCast, Int.toNat_natCast, hk.pw, Int.toNat_natCast]
def rowsQ (s : QS) : List (List Int) := if s.2.2 = 2 then s.1.1 else []
end Go.Proofs.Ytiifdhdhjioefaa
