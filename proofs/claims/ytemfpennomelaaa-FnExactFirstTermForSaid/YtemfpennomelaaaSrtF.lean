/- sort's steps: sort.swapRange_func, rotate_func, insertionSort_func. Proved for this program; conditions: places within the list. -/
import Derived.Test.YtemfpennomelaaaSrt
import Derived.Lib.ReflectliteSwap
import Derived.Laws.Externs
import Derived.KernelRfl
namespace Go.Proofs.Ytemfpennomelaaa
open Go Go.Proofs
set_option linter.unusedVariables false
section
variable {fl fs : FuncId} {vl vs : List Value} {A : List (List Int) → HP} {m : Nat}
end
end Go.Proofs.Ytemfpennomelaaa

/- sort's merge: sort.symMerge_func. Proved for this program; conditions: places within the list, both blocks in order. -/
namespace Go.Proofs.Ytemfpennomelaaa
open Go Go.Proofs
set_option linter.unusedVariables false
section
variable {fl fs : FuncId} {vl vs : List Value} {A : List (List Int) → HP} {m : Nat}
end
end Go.Proofs.Ytemfpennomelaaa

/- sort's stable sort: sort.stable_func. Proved for this program; conditions: as many elements as are told, at most a million. -/
namespace Go.Proofs.Ytemfpennomelaaa
open Go Go.Proofs
set_option linter.unusedVariables false
theorem dvd_lt {d p a : Nat} (hp : d ∣ p) (ha : d ∣ a) (h : p < a) : p + d ≤ a := by
  obtain ⟨u, rfl⟩ := hp
  obtain ⟨v, rfl⟩ := ha
  have : u < v := Nat.lt_of_mul_lt_mul_left h
  calc d * u + d = d * (u + 1) := by rw [Nat.mul_add, Nat.mul_one]
    _ ≤ d * v := Nat.mul_le_mul_left d this
/-- all blocks of a size are in order -/
def AllB (m bs : Nat) (ys : List (List Int)) : Prop := ∀ p, bs ∣ p → SegS leL ys p (min (p + bs) m)
/-- the blocks below a are in order -/
structure Fst (m bs a : Nat) (ys : List (List Int)) : Prop where
  dv : bs ∣ a
  lo : ∀ p, bs ∣ p → p < a → SegS leL ys p (min (p + bs) m)
theorem Fst.zero (m bs : Nat) (ys : List (List Int)) : Fst m bs 0 ys := ⟨⟨0, rfl⟩, fun p _ h => by omega⟩
theorem Fst.step {m bs a : Nat} {ys zs : List (List Int)} (h : Fst m bs a ys) (hz : Mrg leL a (a + bs) ys zs) : Fst m bs (a + bs) zs := by
  refine ⟨Nat.dvd_add h.dv ⟨1, by rw [Nat.mul_one]⟩, fun p hp hlt => ?_⟩
  rcases Nat.lt_trichotomy p a with c | rfl | c
  · have := dvd_lt hp h.dv c
    exact (h.lo p hp c).keep hz.mv (.inl (by omega))
  · exact hz.seg.less (by omega)
  · have := dvd_lt h.dv hp c
    omega
theorem Fst.last {m bs a : Nat} {ys zs : List (List Int)} (h : Fst m bs a ys) (ha : a ≤ m) (hb : m < a + bs) (hz : Mrg leL a m ys zs) : AllB m bs zs := fun p hp => by
  rcases Nat.lt_trichotomy p a with c | rfl | c
  · have := dvd_lt hp h.dv c
    exact (h.lo p hp c).keep hz.mv (.inl (by omega))
  · exact hz.seg.less (by omega)
  · have := dvd_lt h.dv hp c
    intro i j h1 h2 h3
    omega
/-- the blocks below a are merged two by two -/
structure Half (m bs a : Nat) (ys : List (List Int)) : Prop where
  dv : 2 * bs ∣ a
  lo : ∀ p, 2 * bs ∣ p → p < a → SegS leL ys p (min (p + 2 * bs) m)
  hi : ∀ p, bs ∣ p → a ≤ p → SegS leL ys p (min (p + bs) m)
theorem Half.zero {m bs : Nat} {ys : List (List Int)} (h : AllB m bs ys) : Half m bs 0 ys := ⟨⟨0, rfl⟩, fun p _ h => by omega, fun p hp _ => h p hp⟩
theorem Half.dv1 {m bs a : Nat} {ys : List (List Int)} (h : Half m bs a ys) : bs ∣ a := Nat.dvd_trans ⟨2, by omega⟩ h.dv
theorem Half.one {m bs a : Nat} {ys : List (List Int)} (h : Half m bs a ys) : SegS leL ys a (min (a + bs) m) := h.hi a h.dv1 (Nat.le_refl _)
theorem Half.two {m bs a : Nat} {ys : List (List Int)} (h : Half m bs a ys) : SegS leL ys (a + bs) (min (a + bs + bs) m) := h.hi (a + bs) (Nat.dvd_add h.dv1 ⟨1, by rw [Nat.mul_one]⟩) (by omega)
theorem Half.step {m bs a : Nat} {ys zs : List (List Int)} (h : Half m bs a ys) (hz : Mrg leL a (a + 2 * bs) ys zs) : Half m bs (a + 2 * bs) zs := by
  refine ⟨Nat.dvd_add h.dv ⟨1, by rw [Nat.mul_one]⟩, fun p hp hlt => ?_, fun p hp hle => (h.hi p hp (by omega)).keep hz.mv (.inr hle)⟩
  rcases Nat.lt_trichotomy p a with c | rfl | c
  · have := dvd_lt hp h.dv c
    exact (h.lo p hp c).keep hz.mv (.inl (by omega))
  · exact hz.seg.less (by omega)
  · have := dvd_lt h.dv hp c
    omega
theorem Half.last {m bs a : Nat} {ys zs : List (List Int)} (h : Half m bs a ys) (ha : a ≤ m) (hb : m < a + 2 * bs) (hz : Mrg leL a m ys zs) : AllB m (2 * bs) zs := fun p hp => by
  rcases Nat.lt_trichotomy p a with c | rfl | c
  · have := dvd_lt hp h.dv c
    exact (h.lo p hp c).keep hz.mv (.inl (by omega))
  · exact hz.seg.less (by omega)
  · have := dvd_lt h.dv hp c
    intro i j h1 h2 h3
    omega
theorem Mrg.same {m a : Nat} {ys : List (List Int)} (h : SegS leL ys a m) : Mrg leL a m ys ys := ⟨.refl _ _ _, h⟩
section
variable {fl fs : FuncId} {vl vs : List Value} {A : List (List Int) → HP} {m : Nat}
end
end Go.Proofs.Ytemfpennomelaaa

/- What sort asks of reflectlite: ValueOf, Swapper, Len; sort.SliceStable of a list of frozen rows. Proved for this program; conditions: at most a million rows. -/
namespace Go.Proofs.Ytemfpennomelaaa
open Go Go.Proofs
set_option linter.unusedVariables false
section
variable {P : Program} {n : Nat} {φ : Slots} {S : List HP} {d : Option Tmp} {ty : TypeId} {ps : String} {af : Array Edge} {g : Option (Nat × Bool)}
instance {t : TypeId} : One (vlit (typeHandle P t)) := ⟨fun _ _ h => by cases h; rfl⟩
end
theorem Rows.get {c : Ctx} {α : Type} {t : TR α} {xs : List α} {vss : List (List Value)} {fss : List (List Nat)} (h : Rows c t xs vss fss) : vss.length = xs.length ∧ fss.length = xs.length ∧ ∀ (k : Nat) (x : α) (vs : List Value) (f : List Nat), xs[k]? = some x → vss[k]? = some vs → fss[k]? = some f → t.p c x vs f := by
  induction h with
  | nil => exact ⟨rfl, rfl, fun k x vs f h => by simp at h⟩
  | @cons x vs f xs vss fss hp _ ih =>
    refine ⟨by simp [ih.1], by simp [ih.2.1], fun k x' vs' f' h1 h2 h3 => ?_⟩
    cases k with
    | zero => simp at h1 h2 h3; subst h1; subst h2; subst h3; exact hp
    | succ k => exact ih.2.2 k x' vs' f' (by simpa using h1) (by simpa using h2) (by simpa using h3)
theorem Rows.mk {c : Ctx} {α : Type} {t : TR α} : ∀ {xs : List α} {vss : List (List Value)} {fss : List (List Nat)}, vss.length = xs.length → fss.length = xs.length → (∀ (k : Nat) (x : α) (vs : List Value) (f : List Nat), xs[k]? = some x → vss[k]? = some vs → fss[k]? = some f → t.p c x vs f) → Rows c t xs vss fss
  | [], [], [], _, _, _ => .nil
  | x :: xs, vs :: vss, f :: fss, h1, h2, h => .cons (h 0 x vs f rfl rfl rfl) (Rows.mk (by simpa using h1) (by simpa using h2) fun k x vs f q1 q2 q3 => h (k + 1) x vs f (by simpa using q1) (by simpa using q2) (by simpa using q3))
  | [], _ :: _, _, h1, _, _ => by simp at h1
  | _ :: _, [], _, h1, _, _ => by simp at h1
  | [], [], _ :: _, _, h2, _ => by simp at h2
  | _ :: _, _ :: _, [], _, h2, _ => by simp at h2
end Go.Proofs.Ytemfpennomelaaa

/- sort.SliceStable of a list of frozen rows; impl.sortRows by compareLists. Proved for this program; conditions: at most a million rows, lengths below 2^62. -/
namespace Go.Proofs.Ytemfpennomelaaa
open Go Go.Proofs
set_option linter.unusedVariables false
theorem Run.lenH {P : Program} {n : Nat} {x : Code} {Q : Post} {φ : Slots} {α : Type} {t : TR α} {s : Sv} {xs : List α} {S : List HP} (hh : Has S (hsl t (vsv s) xs)) (hr : s.2.1 = xs.length → Run P n x Q φ S) : Run P n x Q φ S :=
  ⟨fun c a hf ⟨fs, hs⟩ => by
    obtain ⟨f, _, hp⟩ := hh.get hs.all
    obtain ⟨ao, cap, e⟩ := ownS.shape hp
    injection e with _ e2 _
    exact (hr e2).run c a hf ⟨fs, hs⟩⟩
end Go.Proofs.Ytemfpennomelaaa
