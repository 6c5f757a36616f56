/- Keys of lists and the set of a relation's keys: impl.keyOf, tupleSet. Proved for this program; conditions: lists below 2^20. -/
import Derived.Test.YtemfpennomelaaaTypes
namespace Go.Proofs.Ytemfpennomelaaa
open Go Go.Proofs
set_option linter.unusedVariables false

def keyL : List Int → List Int
  | [] => []
  | x :: xs => x / 256 % 256 :: x % 256 :: keyL xs
def keyS (xs : List Int) : ByteArray := strOfNums (keyL xs)
theorem keyL_append : ∀ xs ys : List Int, keyL (xs ++ ys) = keyL xs ++ keyL ys
  | [], _ => rfl
  | x :: xs, ys => by simp [keyL, keyL_append xs ys]
theorem keyL_length : ∀ xs : List Int, (keyL xs).length = 2 * xs.length
  | [] => rfl
  | x :: xs => by simp [keyL, keyL_length xs]; omega
theorem keyL_take (xs : List Int) (j : Nat) (h : j < xs.length) : keyL (xs.take (j + 1)) = keyL (xs.take j) ++ [xs[j] / 256 % 256, xs[j] % 256] := by
  rw [List.take_add_one, List.getElem?_eq_getElem h, keyL_append]; rfl
theorem keyL_inj : ∀ {xs ys : List Int}, (∀ x ∈ xs, 0 ≤ x ∧ x < 65536) → (∀ x ∈ ys, 0 ≤ x ∧ x < 65536) → keyL xs = keyL ys → xs = ys
  | [], [], _, _, _ => rfl
  | [], y :: ys, _, _, h => by simp [keyL] at h
  | x :: xs, [], _, _, h => by simp [keyL] at h
  | x :: xs, y :: ys, hx, hy, h => by
    simp only [keyL, List.cons.injEq] at h
    have h1 := hx x (by simp)
    have h2 := hy y (by simp)
    rw [keyL_inj (fun z hz => hx z (by simp [hz])) (fun z hz => hy z (by simp [hz])) h.2.2, show x = y by omega]
theorem keyL_byte : ∀ (xs : List Int), ∀ x ∈ keyL xs, 0 ≤ x ∧ x < 256
  | [], x, h => by simp [keyL] at h
  | y :: xs, x, h => by
    simp only [keyL, List.mem_cons] at h
    rcases h with rfl | rfl | h
    · omega
    · omega
    · exact keyL_byte xs x h
theorem bytes_inj : ∀ {xs ys : List Int}, (∀ x ∈ xs, 0 ≤ x ∧ x < 256) → (∀ x ∈ ys, 0 ≤ x ∧ x < 256) → (xs.map fun n => UInt8.ofNat n.toNat) = (ys.map fun n => UInt8.ofNat n.toNat) → xs = ys
  | [], [], _, _, _ => rfl
  | [], y :: ys, _, _, h => by simp at h
  | x :: xs, [], _, _, h => by simp at h
  | x :: xs, y :: ys, hx, hy, h => by
    simp only [List.map_cons, List.cons.injEq] at h
    have h1 := hx x (by simp)
    have h2 := hy y (by simp)
    have h3 := congrArg UInt8.toNat h.1
    simp only [UInt8.toNat_ofNat'] at h3
    rw [bytes_inj (fun z hz => hx z (by simp [hz])) (fun z hz => hy z (by simp [hz])) h.2, show x = y by omega]
theorem keyS_inj {xs ys : List Int} (hx : ∀ x ∈ xs, 0 ≤ x ∧ x < 65536) (hy : ∀ x ∈ ys, 0 ≤ x ∧ x < 65536) (h : keyS xs = keyS ys) : xs = ys := by
  refine keyL_inj hx hy (bytes_inj (keyL_byte xs) (keyL_byte ys) ?_)
  have := congrArg (fun b : ByteArray => b.data.toList) h
  simpa [keyS, strOfNums_data] using this
theorem keyS_mem {t : List Int} {xs : List (List Int)} (ht : ∀ x ∈ t, 0 ≤ x ∧ x < 65536) (hs : ∀ u ∈ xs, ∀ x ∈ u, 0 ≤ x ∧ x < 65536) : keyS t ∈ xs.map keyS ↔ t ∈ xs := by
  constructor
  · intro h
    obtain ⟨u, hu, e⟩ := List.mem_map.1 h
    exact keyS_inj (hs u hu) ht e ▸ hu
  · exact fun h => List.mem_map_of_mem h

set_option maxRecDepth 10000 in
theorem keyOf_c (xs : List Int) (hl : xs.length ≤ 1048576) :
    Spec Try.prog 30 [vsl 1 (fun x : Int => [vint x]) xs] [] (fun r S' => r = vstr (keyS xs) ∧ S' = []) := by
  refine Spec.of_run2 (n := 27) Try.func30 rfl Try.results30 Try.ntmps30 rfl ?_
  repeat' (first | (with_reducible refine RL.done ?_) | (with_reducible refine RL.wanted ?_ ?_; exact rfl) | ((with_reducible show RH _ _ _ ⟨some 9, .makeSlice _ _ _, _, _, _, _⟩ _ _ _ _); refine RH.make0 (α := Int) rfl (fun x => [vu8 x]) 0 (fun c => .cons rfl .nil) rfl rfl (by omega) (by omega) ?_; rintro _ _ ⟨b9, rfl, rfl⟩) | ((with_reducible show RH _ _ _ _ _ _ _ _); refine RH.val (hK := ?_)) | (with_reducible first | refine Run.seq ?_ | refine Run.region ?_ | refine Run.block ?_) | (with_reducible refine seqN (K := Run _ _ _ _) ?_))
  refine Run.loop (α := Nat × Nat × Nat) (fun x => [(3, vsb x.2.1 (keyL (xs.take x.1)).length x.2.2), (10, vsl 1 (fun x : Int => [vint x]) xs), (11, vint (xs.length : Int)), (12, vint (x.1 : Int))])
    (fun x => [harr x.2.1 1 (fun x : Int => [vu8 x]) (keyL (xs.take x.1)) (x.2.2 * 1)]) (fun x => x.1 ≤ xs.length) (fun x => xs.length - x.1) (0, b9, _) (by simp) (Ent.of slA (.cons .head rfl chA)) ?_
  rintro ⟨j, b, cap⟩ hj
  dsimp only at hj ⊢
  have hk := keyL_length (xs.take j)
  have hk2 : (xs.take j).length = j := by rw [List.length_take]; omega
  repeat' (first | (with_reducible refine RL.done ?_) | (with_reducible refine RL.wanted ?_ ?_; exact rfl) | ((with_reducible show RH _ _ _ ⟨some 22, .buildSlice _ _ _, _, _, _, _⟩ _ _ _ _); refine RH.eff rfl rfl (EOpS.e (EOpS.slit (fun x : Int => [vu8 x]) _ (fun _ _ => rfl) (by repeat (first | exact Elts.nil | (apply Elts.cons; exact rfl; exact CellsOf.one))) rfl rfl)) ?_; rintro _ _ ⟨b22, rfl, rfl⟩) | ((with_reducible show RH _ _ _ ⟨_, .call ⟨.builtin .append, _, _⟩, _, _, _, _⟩ _ _ _ _); refine RH.appOO rfl rfl rfl (by with_reducible repeat (first | exact Has.head | apply Has.tail)) (by with_reducible repeat (first | exact Plc.head | apply Plc.tail)) rfl rfl (by first | omega | (simp; omega)) (by first | omega | (simp; omega)) ?_; rintro _ _ ⟨b9, c9, rfl, rfl⟩) | ((with_reducible show RH _ _ _ _ _ _ _ _); refine RH.val (hK := ?_)) | (with_reducible first | refine Run.seq ?_ | refine Run.region ?_ | refine Run.block ?_ | refine Run.skip ?_ | refine Run.exit ?_ | refine Run.ret ?_) | (with_reducible show Run _ _ (.cond _ _ _) _ _ _; refine Run.condD rfl (fun h => ?_) (fun h => ?_)) | (with_reducible first | refine seqN (K := Run _ _ _ _) ?_ | refine seqE ?_ | refine blockN ?_ | refine blockE ?_))
  · with_reducible refine seqN ?_
    have e := keyL_take xs j (by omega)
    exact ⟨(j + 1, b9, c9), by simp; omega, by simp; omega, Ent.of (by (repeat (first | exact Sl.nil | refine Sl.cons rfl rfl ?_ | refine Sl.cons rfl (congrArg (fun z => vlit (Value.int .i64 z)) (by omega)) ?_ | refine Sl.cons rfl (by simp [e]) ?_))) (by dsimp only; rw [e]; exact .cons (.tail .head) rfl chA)⟩
  · obtain rfl : j = xs.length := by omega
    refine ⟨eA, _, [], resA, .ch .nil, ?_⟩
    exact ⟨by rw [List.take_length]; rfl, rfl⟩

end Go.Proofs.Ytemfpennomelaaa
