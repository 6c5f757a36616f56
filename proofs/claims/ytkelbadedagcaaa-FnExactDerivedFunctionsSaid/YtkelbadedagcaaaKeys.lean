/- Keys of lists and the set of a relation's keys: impl.keyOf, tupleSet. Proved for this program; conditions: lists below 2^20. -/
import Derived.Test.YtkelbadedagcaaaTypes
namespace Go.Proofs.Ytkelbadedagcaaa
open Go Go.Proofs
set_option linter.unusedVariables false

def keyL : List Int → List Int
  | [] => []
  | x :: xs => x / 256 % 256 :: x % 256 :: keyL xs
def keyS (xs : List Int) : ByteArray := strOfNums (keyL xs)
theorem keyL_inj : ∀ {xs ys : List Int}, (∀ x ∈ xs, 0 ≤ x ∧ x < 65536) → (∀ x ∈ ys, 0 ≤ x ∧ x < 65536) → keyL xs = keyL ys → xs = ys
  | [], [], _, _, _ => rfl
  | [], y :: ys, _, _, h => by simp [keyL] at h
  | x :: xs, [], _, _, h => by simp [keyL] at h
  | x :: xs, y :: ys, hx, hy, h => by
    simp only [keyL, List.cons.injEq] at h
    have h1 := hx x (by simp)
    have h2 := hy y (by simp)
    rw [keyL_inj (fun z hz => hx z (by simp [hz])) (fun z hz => hy z (by simp [hz])) h.2.2, show x = y by omega]
theorem keyL_byte : ∀ (xs : List Int), ∀ x ∈ keyL xs, 0 ≤ x ∧ x < 256
  | [], x, h => by simp [keyL] at h
  | y :: xs, x, h => by
    simp only [keyL, List.mem_cons] at h
    rcases h with rfl | rfl | h
    · omega
    · omega
    · exact keyL_byte xs x h
theorem bytes_inj : ∀ {xs ys : List Int}, (∀ x ∈ xs, 0 ≤ x ∧ x < 256) → (∀ x ∈ ys, 0 ≤ x ∧ x < 256) → (xs.map fun n => UInt8.ofNat n.toNat) = (ys.map fun n => UInt8.ofNat n.toNat) → xs = ys
  | [], [], _, _, _ => rfl
  | [], y :: ys, _, _, h => by simp at h
  | x :: xs, [], _, _, h => by simp at h
  | x :: xs, y :: ys, hx, hy, h => by
    simp only [List.map_cons, List.cons.injEq] at h
    have h1 := hx x (by simp)
    have h2 := hy y (by simp)
    have h3 := congrArg UInt8.toNat h.1
    simp only [UInt8.toNat_ofNat'] at h3
    rw [bytes_inj (fun z hz => hx z (by simp [hz])) (fun z hz => hy z (by simp [hz])) h.2, show x = y by omega]
theorem keyS_inj {xs ys : List Int} (hx : ∀ x ∈ xs, 0 ≤ x ∧ x < 65536) (hy : ∀ x ∈ ys, 0 ≤ x ∧ x < 65536) (h : keyS xs = keyS ys) : xs = ys := by
  refine keyL_inj hx hy (bytes_inj (keyL_byte xs) (keyL_byte ys) ?_)
  have := congrArg (fun b : ByteArray => b.data.toList) h
  simpa [keyS, strOfNums_data] using this
theorem keyS_mem {t : List Int} {xs : List (List Int)} (ht : ∀ x ∈ t, 0 ≤ x ∧ x < 65536) (hs : ∀ u ∈ xs, ∀ x ∈ u, 0 ≤ x ∧ x < 65536) : keyS t ∈ xs.map keyS ↔ t ∈ xs := by
  constructor
  · intro h
    obtain ⟨u, hu, e⟩ := List.mem_map.1 h
    exact keyS_inj (hs u hu) ht e ▸ hu
  · exact fun h => List.mem_map_of_mem h

end Go.Proofs.Ytkelbadedagcaaa
