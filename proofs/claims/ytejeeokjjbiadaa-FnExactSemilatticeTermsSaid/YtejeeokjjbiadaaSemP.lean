/- Semilattice operations: impl.IsIdempotent, IsCommutative, IsAssociative on a binary operation. Proved for this program; conditions: a valid algebra. -/
import Derived.Test.YtejeeokjjbiadaaHomC
namespace Go.Proofs.Ytejeeokjjbiadaa
open Go Go.Proofs
set_option linter.unusedVariables false
def at2 (N : Nat) (t : List Int) (x y : Nat) : Int := t.getD (x * N + y) 0
def idX (N : Nat) (t : List Int) (x : Nat) : Bool := decide (at2 N t x x = (x : Int))
def idB (N : Nat) (t : List Int) : Bool := (List.range N).all (idX N t)
def comY (N : Nat) (t : List Int) (x y : Nat) : Bool := decide (at2 N t x y = at2 N t y x)
def comX (N : Nat) (t : List Int) (x : Nat) : Bool := (List.range x).all (comY N t x)
def comB (N : Nat) (t : List Int) : Bool := (List.range N).all (comX N t)
def asZ (N : Nat) (t : List Int) (x y z : Nat) : Bool := decide (at2 N t (at2 N t x y).toNat z = at2 N t x (at2 N t y z).toNat)
def asY (N : Nat) (t : List Int) (x y : Nat) : Bool := (List.range N).all (asZ N t x y)
def asX (N : Nat) (t : List Int) (x : Nat) : Bool := (List.range N).all (asY N t x)
def asB (N : Nat) (t : List Int) : Bool := (List.range N).all (asX N t)
def semB (N : Nat) (t : List Int) : Bool := idB N t && (comB N t && asB N t)
theorem rng_succ (f : Nat → Bool) (j : Nat) : (List.range (j + 1)).all f = ((List.range j).all f && f j) := by simp [List.range_succ]
theorem rng_false (f : Nat → Bool) (j m : Nat) (h : j < m) (hf : f j = false) : (List.range m).all f = false := by
  rw [List.all_eq_false]; exact ⟨j, by simpa using h, by simp [hf]⟩
theorem rng_step {f : Nat → Bool} {j : Nat} (h : (List.range j).all f = true) (hf : f j = true) : (List.range (j + 1)).all f = true := by rw [rng_succ, h, hf]; rfl
/-- a binary operation of an algebra -/
structure BinOk (N : Nat) (os : List (Int × List Int)) (op : Nat) (t : List Int) : Prop where
  alg : algB (N : Int) os = true
  n1 : 1 ≤ N
  n8 : N ≤ 8
  lt : op < os.length
  ar : ∀ h : op < os.length, os[op].1 = 2
  tab : ∀ h : op < os.length, os[op].2 = t
  len : t.length = N * N
  el : ∀ x ∈ t, 0 ≤ x ∧ x < (N : Int)
theorem idx_lt {N x y : Nat} (hx : x < N) (hy : y < N) : x * N + y < N * N := by
  have : (x + 1) * N ≤ N * N := Nat.mul_le_mul_right N hx
  rw [Nat.succ_mul] at this; omega
theorem at2_at {N x y : Nat} {t : List Int} (hl : t.length = N * N) (hx : x < N) (hy : y < N) {k : Nat} (hk : k = x * N + y) (h : k < t.length) : t[k] = at2 N t x y := by
  subst hk
  rw [at2, List.getD_eq_getElem?_getD, List.getElem?_eq_getElem h]; rfl
theorem at2_in {N x y : Nat} {t : List Int} (hl : t.length = N * N) (he : ∀ v ∈ t, 0 ≤ v ∧ v < (N : Int)) (hx : x < N) (hy : y < N) : 0 ≤ at2 N t x y ∧ at2 N t x y < (N : Int) := by
  have h : x * N + y < t.length := by rw [hl]; exact idx_lt hx hy
  rw [← at2_at hl hx hy rfl h]; exact he _ (List.getElem_mem h)
theorem bin_one {N : Nat} (h1 : 1 ≤ N) (h8 : N ≤ 8) {t : List Int} (ho : opB (N : Int) 2 t = true) : BinOk N [(2, t)] 0 t := by
  have h := ho
  simp only [opB, Bool.and_eq_true, decide_eq_true_eq] at h
  refine ⟨?_, h1, h8, by simp, fun _ => rfl, fun _ => rfl, ?_, fun x hx => ?_⟩
  · simp only [algB, Bool.and_eq_true, decide_eq_true_eq]
    simp [ho]; omega
  · have h2 : pw (N : Int) (2 : Int).toNat = (N : Int) * (N : Int) := by show pw (N : Int) 2 = _; simp [pw]
    have h3 := h.2.1
    rw [h2, ← Int.natCast_mul] at h3
    omega
  · have h3 := h.2.2
    rw [elB, List.all_eq_true] at h3
    simpa using h3 x hx
end Go.Proofs.Ytejeeokjjbiadaa
