/- Valid relations: spec.l13Good, l13Takes, IsRelation, impl.isRelation, hasRelation, IsRelation: the same answer. Proved for this program; conditions: lengths below 2^62. -/
import Derived.Test.YtiifdhdhjioefaaTup
namespace Go.Proofs.Ytiifdhdhjioefaa
open Go Go.Proofs
set_option linter.unusedVariables false

theorem rangeAll_succ (f : Nat → Bool) (j : Nat) : (List.range (j + 1)).all f = ((List.range j).all f && f j) := by simp [List.range_succ]
theorem rangeAll_false (f : Nat → Bool) (j m : Nat) (h : j < m) (hf : f j = false) : (List.range m).all f = false := by
  rw [List.all_eq_false]; exact ⟨j, by simpa using h, by simp [hf]⟩
theorem rangeAll_at {f : Nat → Bool} {j m : Nat} (h : (List.range m).all f = true) (hj : j < m) : f j = true := by
  rw [List.all_eq_true] at h; exact h j (by simpa using hj)
theorem getD_at {α : Type} (p : List α) (d : α) (j : Nat) (h : j < p.length) : p.getD j d = p[j] := by simp [List.getD, h]

/-- tuple j is of length a, over n elements, and after the one before it -/
def tupAt (n a : Int) (xs : List (List Int)) (j : Nat) : Bool :=
  (decide (((xs.getD j []).length : Int) = a) && elB n (xs.getD j [])) && (j == 0 || less (xs.getD (j - 1) []) (xs.getD j []))
def relB (n a : Int) (xs : List (List Int)) : Bool := decide (1 ≤ a ∧ a ≤ 3) && (List.range xs.length).all (tupAt n a xs)
theorem tupAt_no1 {n a : Int} {xs : List (List Int)} {j : Nat} (h : j < xs.length) (h1 : (decide ((xs[j].length : Int) = a) && elB n xs[j]) = false) : tupAt n a xs j = false := by
  rw [tupAt, getD_at xs [] j h, h1, Bool.false_and]
theorem tupAt_no2 {n a : Int} {xs : List (List Int)} {j : Nat} (h : j < xs.length) (h0 : 0 < j) (h1 : less xs[j - 1] xs[j] = false) : tupAt n a xs j = false := by
  rw [tupAt, getD_at xs [] j h, getD_at xs [] (j - 1) (by omega), h1, show (j == 0) = false by simp; omega]; simp
theorem tupAt_yes {n a : Int} {xs : List (List Int)} {j : Nat} (h : j < xs.length) (h1 : (decide ((xs[j].length : Int) = a) && elB n xs[j]) = true) (h2 : (h0 : 0 < j) → less xs[j - 1] xs[j] = true) : tupAt n a xs j = true := by
  rw [tupAt, getD_at xs [] j h, getD_at xs [] (j - 1) (by omega), h1, Bool.true_and]
  cases j with
  | zero => rfl
  | succ j => simpa using h2 (by omega)
theorem tupAt_len {n a : Int} {xs : List (List Int)} {j : Nat} (h : j < xs.length) (ht : tupAt n a xs j = true) : (xs[j].length : Int) = a := by
  rw [tupAt, getD_at xs [] j h] at ht
  simp only [Bool.and_eq_true, decide_eq_true_eq] at ht; exact ht.1.1
theorem tupAt_el {n a : Int} {xs : List (List Int)} {j : Nat} (h : j < xs.length) (ht : tupAt n a xs j = true) : elB n xs[j] = true := by
  rw [tupAt, getD_at xs [] j h] at ht
  simp only [Bool.and_eq_true] at ht; exact ht.1.2
theorem tupAt_less {n a : Int} {xs : List (List Int)} {j : Nat} (h : j < xs.length) (h0 : 0 < j) (ht : tupAt n a xs j = true) : less xs[j - 1] xs[j] = true := by
  rw [tupAt, getD_at xs [] j h, getD_at xs [] (j - 1) (by omega), show (j == 0) = false by simp; omega, Bool.false_or, Bool.and_eq_true] at ht
  exact ht.2

/-- the number of a tuple in base n -/
def num (n : Int) : List Int → Int
  | [] => 0
  | x :: t => x * pw n t.length + num n t
theorem num_range (n : Int) (h0 : 0 ≤ n) : ∀ t : List Int, elB n t = true → 0 ≤ num n t ∧ num n t < pw n t.length
  | [], _ => by simp [num, pw]
  | x :: t, h => by
    simp only [elB, List.all_cons, Bool.and_eq_true, decide_eq_true_eq] at h
    obtain ⟨h1, h2⟩ := num_range n h0 t h.2
    have h3 : (x + 1) * pw n t.length ≤ n * pw n t.length := Int.mul_le_mul_of_nonneg_right (by omega) (pw_nonneg n h0 _)
    have h4 : 0 ≤ x * pw n t.length := Int.mul_nonneg h.1.1 (pw_nonneg n h0 _)
    rw [Int.add_mul] at h3
    simp only [num, List.length_cons, pw]
    rw [Int.mul_comm (pw n t.length) n]
    omega
theorem num_less (n : Int) (h0 : 0 ≤ n) : ∀ {a b : List Int}, a.length = b.length → elB n a = true → elB n b = true → less a b = true → num n a < num n b
  | [], b, _, _, _, h => by cases b <;> simp [less] at h
  | x :: a, [], h, _, _, _ => by simp at h
  | x :: a, y :: b, hl, ha, hb, h => by
    simp only [elB, List.all_cons, Bool.and_eq_true, decide_eq_true_eq] at ha hb
    have hl' : a.length = b.length := by simpa using hl
    simp only [less] at h
    split at h
    · rename_i e; subst e
      have := num_less n h0 hl' ha.2 hb.2 h
      simp only [num, hl']; omega
    · simp only [decide_eq_true_eq] at h
      have h1 := (num_range n h0 a ha.2).2
      have h2 := (num_range n h0 b hb.2).1
      have h3 : (x + 1) * pw n b.length ≤ y * pw n b.length := Int.mul_le_mul_of_nonneg_right (by omega) (pw_nonneg n h0 _)
      rw [Int.add_mul] at h3
      simp only [num, hl'] at h1 ⊢; omega
theorem relB_num {n a : Int} {xs : List (List Int)} (h0 : 0 ≤ n) (h : (List.range xs.length).all (tupAt n a xs) = true) : ∀ j (hj : j < xs.length), (j : Int) ≤ num n xs[j]
  | 0, hj => by have := (num_range n h0 _ (tupAt_el hj (rangeAll_at h hj))).1; omega
  | j + 1, hj => by
    have h1 := relB_num h0 h j (by omega)
    have h2 := num_less n h0 (by have := tupAt_len hj (rangeAll_at h hj); have := tupAt_len (show j < xs.length by omega) (rangeAll_at h (by omega)); omega) (tupAt_el (show j < xs.length by omega) (rangeAll_at h (by omega))) (tupAt_el hj (rangeAll_at h hj)) (tupAt_less hj (by omega) (rangeAll_at h hj))
    omega
theorem relB_len {n a : Int} {xs : List (List Int)} (h0 : 0 ≤ n) (ha : 0 ≤ a) (h : (List.range xs.length).all (tupAt n a xs) = true) : (xs.length : Int) ≤ pw n a.toNat := by
  rcases Nat.eq_zero_or_pos xs.length with e | e
  · have := pw_nonneg n h0 a.toNat; omega
  · have hj : xs.length - 1 < xs.length := by omega
    have h1 := relB_num h0 h _ hj
    have h2 := (num_range n h0 _ (tupAt_el hj (rangeAll_at h hj))).2
    have h3 := tupAt_len hj (rangeAll_at h hj)
    rw [show xs[xs.length - 1].length = a.toNat by omega] at h2
    omega

theorem prevAt {xs : List (List Int)} {j : Nat} (h : ((j : Int) - 1).toNat < xs.length) (hj : j - 1 < xs.length) : xs[((j : Int) - 1).toNat] = xs[j - 1] := by
  simp only [show ((j : Int) - 1).toNat = j - 1 by omega]
theorem lenOf {b : Bool} {x y : Int} (h : (decide (x = y) && b) = true) : x = y := by simp at h; exact h.1

set_option maxRecDepth 10000 in
set_option maxHeartbeats 1000000 in
theorem l13Good_c (n a : Int) (xs : List (List Int)) (h1 : 1 ≤ n) (h8 : n ≤ 1048576) (hl : xs.length ≤ 4611686018427387904) (hr : ∀ t ∈ xs, t.length ≤ 4611686018427387904) :
    Spec Try.prog 105 [vint n, vagg [vint a, vsl 1 (fun t : List Int => [vsl 1 (fun x : Int => [vint x]) t]) xs]] [] (fun r S' => r = vbool (relB n a xs) ∧ S' = []) := by
  by_cases ha : 1 ≤ a ∧ a ≤ 3
  · obtain ⟨k, rfl⟩ : ∃ k : Nat, a = k := ⟨a.toNat, by omega⟩
    refine Spec.of_run2 (n := 56) Try.func105 rfl Try.results105 Try.ntmps105 rfl ?_
    repeat' (first | (with_reducible first | refine RL.done ?_ | refine RD.app0 ?_) | (with_reducible refine RL.wanted ?_ ?_; exact rfl) | ((with_reducible show Run _ _ (.region 1 _ true) _ _ _); refine Run.regionD (fun i => false) rfl ?_; change RD _ _ _ _ _ _ 14 (dm 14 0) _ _) | ((with_reducible show RD _ _ 1 _ _ _ _ _ _ _); first | ((with_reducible show RD _ _ _ _ _ _ _ (dm 14 0) _ _); refine RD.tk 0 (dm 14 16382) (dm 14 1) (hK := ?_)) | ((with_reducible show RD _ _ _ _ _ _ _ (dm 14 1) _ _); refine RD.tk 1 (dm 14 16380) (dm 14 3) (hK := ?_)) | ((with_reducible show RD _ _ _ _ _ _ _ (dm 14 3) _ _); refine RD.a1 2 ?_) | ((with_reducible show RD _ _ _ _ _ _ _ (dm 14 7) _ _); refine RD.tk 3 (dm 14 16368) (dm 14 15) (hK := ?_)) | ((with_reducible show RD _ _ _ _ _ _ _ (dm 14 15) _ _); refine RD.tk 4 (dm 14 16352) (dm 14 31) (hK := ?_)) | ((with_reducible show RD _ _ _ _ _ _ _ (dm 14 31) _ _); first | refine RD.tk 5 (dm 14 12480) (dm 14 63) (hK := ?_) | refine RD.sk 5 (dm 14 12480) (dm 14 63) (hK := ?_) | refine RD.spND (i := 5) (fun h => ?_) (fun h => ?_)) | ((with_reducible show RD _ _ _ _ _ _ _ (dm 14 63) _ _); first | refine RD.tk 6 (dm 14 12416) (dm 14 127) (hK := ?_) | refine RD.sk 6 (dm 14 12416) (dm 14 127) (hK := ?_)) | ((with_reducible show RD _ _ _ _ _ _ _ (dm 14 127) _ _); first | refine RD.tk 7 (dm 14 12288) (dm 14 255) (hK := ?_) | refine RD.sk 7 (dm 14 12288) (dm 14 255) (hK := ?_)) | ((with_reducible show RD _ _ _ _ _ _ _ (dm 14 255) _ _); first | refine RD.tk 8 (dm 14 14336) (dm 14 511) (hK := ?_) | refine RD.sk 8 (dm 14 14336) (dm 14 511) (hK := ?_)) | ((with_reducible show RD _ _ _ _ _ _ _ (dm 14 511) _ _); first | refine RD.tk 9 (dm 14 15360) (dm 14 1023) (hK := ?_) | refine RD.sk 9 (dm 14 15360) (dm 14 1023) (hK := ?_)) | ((with_reducible show RD _ _ _ _ _ _ _ (dm 14 1023) _ _); first | refine RD.tk 10 (dm 14 14336) (dm 14 2047) (hK := ?_) | refine RD.sk 10 (dm 14 14336) (dm 14 2047) (hK := ?_)) | ((with_reducible show RD _ _ _ _ _ _ _ (dm 14 2047) _ _); first | refine RD.sk 11 (dm 14 12288) (dm 14 4095) (hK := ?_) | refine RD.a1 11 ?_) | ((with_reducible show RD _ _ _ _ _ _ _ (dm 14 4095) _ _); first | refine RD.tk 12 (dm 14 8192) (dm 14 8191) (hK := ?_) | refine RD.sk 12 (dm 14 8192) (dm 14 8191) (hK := ?_)) | ((with_reducible show RD _ _ _ _ _ _ _ (dm 14 8191) _ _); refine RD.tk 13 (dm 14 0) (dm 14 16383) (hK := ?_)) | ((with_reducible show RD _ _ _ _ _ _ 0 _ _ _); refine RD.done (by kernel_rfl) ?_)) | ((with_reducible show RO _ _ 1 _ _ _ _ _ _ _ _); first | ((with_reducible show RO _ _ _ _ _ _ _ (dm 14 3) 2 _ _); (refine RO.cP (dm 14 7) Try.call85 ?_; refine ⟨_, l1In_c _ _ _, ?_⟩; rintro _ _ ⟨rfl, rfl⟩)) | ((with_reducible show RO _ _ _ _ _ _ _ (dm 14 2047) 11 _ _); (refine RO.cP (dm 14 4095) Try.call99 ?_; refine ⟨_, l2Pow_c n _ (by omega) (by omega) (by omega), ?_⟩; rintro _ _ ⟨rfl, rfl⟩))) | ((with_reducible show RH _ _ _ ⟨some 3, .box _ _, _, _, _, _⟩ _ _ _ _); (refine RH.boxAgg rfl rfl ?_; rintro _ _ ⟨b3, rfl, rfl⟩)) | ((with_reducible show RH _ _ _ _ _ _ _ _); refine RH.val (hK := ?_)) | (with_reducible first | refine Run.seq ?_ | refine Run.region ?_ | refine Run.block ?_ | refine Run.skip ?_ | refine Run.ret ?_) | (with_reducible show Run _ _ (.cond _ _ _) _ _ _; first | refine Run.condT rfl ?_ | refine Run.condD rfl (fun h => ?_) (fun h => ?_)) | (with_reducible first | refine seqN (K := Run _ _ _ _) ?_ | refine seqR ?_))
    · refine ⟨eA, _, [], resA, .ch .nil, ?_⟩
      exact absurd ha (by assumption)
    · refine ⟨eA, _, [], resA, .ch .nil, ?_⟩
      exact ⟨congrArg vbool (by
        rw [relB, decide_eq_true ha, Bool.true_and]
        symm; apply Bool.eq_false_iff.2; intro h
        have := relB_len (by omega) (by omega) h
        rw [Int.toNat_natCast] at this; omega), rfl⟩
    · refine Run.loop (α := Nat) (fun j => [(0, vint n), (3, vptr b3 0), (5, vint (j : Int))]) (fun _ => [hcells b3 [vint (k : Int), vsl 1 (fun t : List Int => [vsl 1 (fun x : Int => [vint x]) t]) xs]]) (fun j => j ≤ xs.length ∧ (List.range j).all (tupAt n k xs) = true) (fun j => xs.length - j) 0 (by simp) (Ent.of slA chA) ?_
      rintro j ⟨hj, ht⟩
      have hp : ∀ i (hi : i < xs.length), i < j → (xs[i].length : Int) = k := fun i hi h => tupAt_len hi (rangeAll_at ht h)
      repeat' (first | (with_reducible first | refine RL.done ?_ | refine RD.app0 ?_) | (with_reducible refine RL.wanted ?_ ?_; exact rfl) | ((with_reducible show Run _ _ (.region 6 _ true) _ _ _); refine Run.regionD (fun i => false) rfl ?_; change RD _ _ _ _ _ _ 29 (dm 29 0) _ _) | ((with_reducible show RD _ _ 6 _ _ _ _ _ _ _); first | ((with_reducible show RD _ _ _ _ _ _ _ (dm 29 0) _ _); refine RD.tk 0 (dm 29 536870656) (dm 29 1) (hK := ?_)) | ((with_reducible show RD _ _ _ _ _ _ _ (dm 29 1) _ _); refine RD.tk 1 (dm 29 536870660) (dm 29 3) (hK := ?_)) | ((with_reducible show RD _ _ _ _ _ _ _ (dm 29 3) _ _); refine RD.tk 2 (dm 29 536870656) (dm 29 7) (hK := ?_)) | ((with_reducible show RD _ _ _ _ _ _ _ (dm 29 7) _ _); refine RD.tk 3 (dm 29 536870864) (dm 29 15) (hK := ?_)) | ((with_reducible show RD _ _ _ _ _ _ _ (dm 29 15) _ _); refine RD.tk 4 (dm 29 536870848) (dm 29 31) (hK := ?_)) | ((with_reducible show RD _ _ _ _ _ _ _ (dm 29 31) _ _); refine RD.tk 5 (dm 29 536870848) (dm 29 63) (hK := ?_)) | ((with_reducible show RD _ _ _ _ _ _ _ (dm 29 63) _ _); refine RD.tk 6 (dm 29 536870784) (dm 29 127) (hK := ?_)) | ((with_reducible show RD _ _ _ _ _ _ _ (dm 29 127) _ _); refine RD.tk 7 (dm 29 536870656) (dm 29 255) (hK := ?_)) | ((with_reducible show RD _ _ _ _ _ _ _ (dm 29 255) _ _); refine RD.a1 8 ?_) | ((with_reducible show RD _ _ _ _ _ _ _ (dm 29 511) _ _); refine RD.tk 9 (dm 29 536869888) (dm 29 1023) (hK := ?_)) | ((with_reducible show RD _ _ _ _ _ _ _ (dm 29 1023) _ _); refine RD.tk 10 (dm 29 536868864) (dm 29 2047) (hK := ?_)) | ((with_reducible show RD _ _ _ _ _ _ _ (dm 29 2047) _ _); first | refine RD.tk 11 (dm 29 536866816) (dm 29 4095) (hK := ?_) | refine RD.sk 11 (dm 29 536866816) (dm 29 4095) (hK := ?_) | refine RD.spNB (i := 11) (fun h => ?_) (fun h => ?_)) | ((with_reducible show RD _ _ _ _ _ _ _ (dm 29 4095) _ _); first | refine RD.tk 12 (dm 29 536862720) (dm 29 8191) (hK := ?_) | refine RD.sk 12 (dm 29 536862720) (dm 29 8191) (hK := ?_)) | ((with_reducible show RD _ _ _ _ _ _ _ (dm 29 8191) _ _); first | refine RD.tk 13 (dm 29 536854528) (dm 29 16383) (hK := ?_) | refine RD.sk 13 (dm 29 536854528) (dm 29 16383) (hK := ?_)) | ((with_reducible show RD _ _ _ _ _ _ _ (dm 29 16383) _ _); first | refine RD.tk 14 (dm 29 504135680) (dm 29 32767) (hK := ?_) | refine RD.sk 14 (dm 29 504135680) (dm 29 32767) (hK := ?_) | refine RD.spD (i := 14) (fun h => ?_) (fun h => ?_)) | ((with_reducible show RD _ _ _ _ _ _ _ (dm 29 32767) _ _); first | refine RD.tk 15 (dm 29 504102912) (dm 29 65535) (hK := ?_) | refine RD.sk 15 (dm 29 504102912) (dm 29 65535) (hK := ?_)) | ((with_reducible show RD _ _ _ _ _ _ _ (dm 29 65535) _ _); first | refine RD.tk 16 (dm 29 504233984) (dm 29 131071) (hK := ?_) | refine RD.sk 16 (dm 29 504233984) (dm 29 131071) (hK := ?_)) | ((with_reducible show RD _ _ _ _ _ _ _ (dm 29 131071) _ _); first | refine RD.tk 17 (dm 29 504102912) (dm 29 262143) (hK := ?_) | refine RD.sk 17 (dm 29 504102912) (dm 29 262143) (hK := ?_)) | ((with_reducible show RD _ _ _ _ _ _ _ (dm 29 262143) _ _); first | refine RD.tk 18 (dm 29 503840768) (dm 29 524287) (hK := ?_) | refine RD.sk 18 (dm 29 503840768) (dm 29 524287) (hK := ?_)) | ((with_reducible show RD _ _ _ _ _ _ _ (dm 29 524287) _ _); first | refine RD.tk 19 (dm 29 503316480) (dm 29 1048575) (hK := ?_) | refine RD.sk 19 (dm 29 503316480) (dm 29 1048575) (hK := ?_)) | ((with_reducible show RD _ _ _ _ _ _ _ (dm 29 1048575) _ _); first | refine RD.tk 20 (dm 29 530579456) (dm 29 2097151) (hK := ?_) | refine RD.sk 20 (dm 29 530579456) (dm 29 2097151) (hK := ?_)) | ((with_reducible show RD _ _ _ _ _ _ _ (dm 29 2097151) _ _); first | refine RD.tk 21 (dm 29 528482304) (dm 29 4194303) (hK := ?_) | refine RD.sk 21 (dm 29 528482304) (dm 29 4194303) (hK := ?_)) | ((with_reducible show RD _ _ _ _ _ _ _ (dm 29 4194303) _ _); first | refine RD.tk 22 (dm 29 528482304) (dm 29 8388607) (hK := ?_) | refine RD.sk 22 (dm 29 528482304) (dm 29 8388607) (hK := ?_)) | ((with_reducible show RD _ _ _ _ _ _ _ (dm 29 8388607) _ _); first | refine RD.tk 23 (dm 29 520093696) (dm 29 16777215) (hK := ?_) | refine RD.sk 23 (dm 29 520093696) (dm 29 16777215) (hK := ?_)) | ((with_reducible show RD _ _ _ _ _ _ _ (dm 29 16777215) _ _); first | refine RD.tk 24 (dm 29 503316480) (dm 29 33554431) (hK := ?_) | refine RD.sk 24 (dm 29 503316480) (dm 29 33554431) (hK := ?_)) | ((with_reducible show RD _ _ _ _ _ _ _ (dm 29 33554431) _ _); first | refine RD.sk 25 (dm 29 469762048) (dm 29 67108863) (hK := ?_) | refine RD.a1 25 ?_) | ((with_reducible show RD _ _ _ _ _ _ _ (dm 29 67108863) _ _); first | refine RD.tk 26 (dm 29 402653184) (dm 29 134217727) (hK := ?_) | refine RD.sk 26 (dm 29 402653184) (dm 29 134217727) (hK := ?_)) | ((with_reducible show RD _ _ _ _ _ _ _ (dm 29 134217727) _ _); first | refine RD.tk 27 (dm 29 268435456) (dm 29 268435455) (hK := ?_) | refine RD.sk 27 (dm 29 268435456) (dm 29 268435455) (hK := ?_)) | ((with_reducible show RD _ _ _ _ _ _ _ (dm 29 268435455) _ _); refine RD.tk 28 (dm 29 0) (dm 29 536870911) (hK := ?_)) | ((with_reducible show RD _ _ _ _ _ _ 0 _ _ _); refine RD.done (by kernel_rfl) ?_)) | ((with_reducible show RO _ _ 6 _ _ _ _ _ _ _ _); first | ((with_reducible show RO _ _ _ _ _ _ _ (dm 29 255) 8 _ _); (refine RO.cP (dm 29 511) Try.call89 ?_; refine ⟨_, l8Tuple_c _ _ _ (by omega) (hr _ (List.getElem_mem _)), ?_⟩; rintro _ _ ⟨rfl, rfl⟩)) | ((with_reducible show RO _ _ _ _ _ _ _ (dm 29 33554431) 25 _ _); (refine RO.cP (dm 29 67108863) Try.call141 ?_; refine ⟨_, l3Less_c _ _ (by have h5 := hp ((j : Int) - 1).toNat (by omega) (by omega); have h6 := lenOf (by assumption); omega) (hr _ (List.getElem_mem _)), ?_⟩; rintro _ _ ⟨rfl, rfl⟩))) | ((with_reducible show RH _ _ _ _ _ _ _ _); refine RH.val (hK := ?_)) | (with_reducible first | refine Run.seq ?_ | refine Run.region ?_ | refine Run.block ?_ | refine Run.skip ?_ | refine Run.exit ?_ | refine Run.ret ?_) | (with_reducible show Run _ _ (.cond _ _ _) _ _ _; first | refine Run.condT rfl ?_ | refine Run.condF rfl ?_ | refine Run.condD rfl (fun h => ?_) (fun h => ?_) | refine Run.condNB rfl (fun h => ?_) (fun h => ?_)) | (with_reducible first | refine seqN (K := Run _ _ _ _) ?_ | refine seqE ?_ | refine seqR ?_ | refine blockN ?_ | refine blockR ?_ | refine blockE ?_))
      · refine ⟨eA, _, [], resA, .ch .nil, ?_⟩
        exact ⟨congrArg vbool (by rw [relB, rangeAll_false _ j _ (by omega) (tupAt_no1 (by omega) (by assumption)), Bool.and_false]), rfl⟩
      · refine ⟨eA, _, [], resA, .ch .nil, ?_⟩
        exact ⟨congrArg vbool (by rw [relB, rangeAll_false _ j _ (by omega) (tupAt_no2 (by omega) (by omega) (by rw [← prevAt (by omega)]; assumption)), Bool.and_false]), rfl⟩
      · with_reducible refine seqN ?_
        exact ⟨j + 1, ⟨by omega, by rw [rangeAll_succ, ht, tupAt_yes (by omega) (by assumption) (fun h0 => by rw [← prevAt (by omega)]; assumption)]; rfl⟩, by omega, Ent.of slA chA⟩
      · with_reducible refine seqN ?_
        exact ⟨j + 1, ⟨by omega, by rw [rangeAll_succ, ht, tupAt_yes (by omega) (by assumption) (fun h0 => by omega)]; rfl⟩, by omega, Ent.of slA chA⟩
      · obtain rfl : j = xs.length := by omega
        refine ⟨eA, _, [], resA, .ch .nil, ?_⟩
        exact ⟨congrArg vbool (by rw [relB, decide_eq_true ha, ht]; rfl), rfl⟩
  · refine Spec.of_run2 (n := 56) Try.func105 rfl Try.results105 Try.ntmps105 rfl ?_
    repeat' (first | (with_reducible first | refine RL.done ?_ | refine RD.app0 ?_) | (with_reducible refine RL.wanted ?_ ?_; exact rfl) | ((with_reducible show Run _ _ (.region 1 _ true) _ _ _); refine Run.regionD (fun i => false) rfl ?_; change RD _ _ _ _ _ _ 14 (dm 14 0) _ _) | ((with_reducible show RD _ _ 1 _ _ _ _ _ _ _); first | ((with_reducible show RD _ _ _ _ _ _ _ (dm 14 0) _ _); refine RD.tk 0 (dm 14 16382) (dm 14 1) (hK := ?_)) | ((with_reducible show RD _ _ _ _ _ _ _ (dm 14 1) _ _); refine RD.tk 1 (dm 14 16380) (dm 14 3) (hK := ?_)) | ((with_reducible show RD _ _ _ _ _ _ _ (dm 14 3) _ _); refine RD.a1 2 ?_) | ((with_reducible show RD _ _ _ _ _ _ _ (dm 14 7) _ _); refine RD.tk 3 (dm 14 16368) (dm 14 15) (hK := ?_)) | ((with_reducible show RD _ _ _ _ _ _ _ (dm 14 15) _ _); refine RD.tk 4 (dm 14 16352) (dm 14 31) (hK := ?_)) | ((with_reducible show RD _ _ _ _ _ _ _ (dm 14 31) _ _); first | refine RD.tk 5 (dm 14 12480) (dm 14 63) (hK := ?_) | refine RD.sk 5 (dm 14 12480) (dm 14 63) (hK := ?_) | refine RD.spND (i := 5) (fun h => ?_) (fun h => ?_)) | ((with_reducible show RD _ _ _ _ _ _ _ (dm 14 63) _ _); first | refine RD.tk 6 (dm 14 12416) (dm 14 127) (hK := ?_) | refine RD.sk 6 (dm 14 12416) (dm 14 127) (hK := ?_)) | ((with_reducible show RD _ _ _ _ _ _ _ (dm 14 127) _ _); first | refine RD.tk 7 (dm 14 12288) (dm 14 255) (hK := ?_) | refine RD.sk 7 (dm 14 12288) (dm 14 255) (hK := ?_)) | ((with_reducible show RD _ _ _ _ _ _ _ (dm 14 255) _ _); first | refine RD.tk 8 (dm 14 14336) (dm 14 511) (hK := ?_) | refine RD.sk 8 (dm 14 14336) (dm 14 511) (hK := ?_)) | ((with_reducible show RD _ _ _ _ _ _ _ (dm 14 511) _ _); first | refine RD.tk 9 (dm 14 15360) (dm 14 1023) (hK := ?_) | refine RD.sk 9 (dm 14 15360) (dm 14 1023) (hK := ?_)) | ((with_reducible show RD _ _ _ _ _ _ _ (dm 14 1023) _ _); first | refine RD.tk 10 (dm 14 14336) (dm 14 2047) (hK := ?_) | refine RD.sk 10 (dm 14 14336) (dm 14 2047) (hK := ?_)) | ((with_reducible show RD _ _ _ _ _ _ _ (dm 14 2047) _ _); first | refine RD.sk 11 (dm 14 12288) (dm 14 4095) (hK := ?_) | refine RD.a1 11 ?_) | ((with_reducible show RD _ _ _ _ _ _ _ (dm 14 4095) _ _); refine RD.sk 12 (dm 14 8192) (dm 14 8191) (hK := ?_)) | ((with_reducible show RD _ _ _ _ _ _ _ (dm 14 8191) _ _); refine RD.tk 13 (dm 14 0) (dm 14 16383) (hK := ?_)) | ((with_reducible show RD _ _ _ _ _ _ 0 _ _ _); refine RD.done (by kernel_rfl) ?_)) | ((with_reducible show RO _ _ 1 _ _ _ _ _ _ _ _); ((with_reducible show RO _ _ _ _ _ _ _ (dm 14 3) 2 _ _); (refine RO.cP (dm 14 7) Try.call85 ?_; refine ⟨_, l1In_c _ _ _, ?_⟩; rintro _ _ ⟨rfl, rfl⟩))) | ((with_reducible show RH _ _ _ ⟨some 3, .box _ _, _, _, _, _⟩ _ _ _ _); (refine RH.boxAgg rfl rfl ?_; rintro _ _ ⟨b3, rfl, rfl⟩)) | ((with_reducible show RH _ _ _ _ _ _ _ _); refine RH.val (hK := ?_)) | (with_reducible first | refine Run.seq ?_ | refine Run.region ?_ | refine Run.ret ?_) | (with_reducible show Run _ _ (.cond _ _ _) _ _ _; refine Run.condT rfl ?_) | (with_reducible first | refine seqN (K := Run _ _ _ _) ?_ | refine seqR ?_))
    · refine ⟨eA, _, [], resA, .ch .nil, ?_⟩
      exact ⟨congrArg vbool (by rw [relB, decide_eq_false ha, Bool.false_and]), rfl⟩
    all_goals (exact absurd (by assumption) ha)

set_option maxRecDepth 10000 in
set_option maxHeartbeats 1000000 in
theorem isRelation_c (n a : Int) (xs : List (List Int)) (hl : xs.length ≤ 4611686018427387904) (hr : ∀ t ∈ xs, t.length ≤ 4611686018427387904) :
    Spec Try.prog 68 [vint n, vagg [vint a, vsl 1 (fun t : List Int => [vsl 1 (fun x : Int => [vint x]) t]) xs]] [] (fun r S' => r = vbool (relB n a xs) ∧ S' = []) := by
  refine Spec.of_run2 (n := 50) Try.func68 rfl Try.results68 Try.ntmps68 rfl ?_
  repeat' (first | (with_reducible refine RL.done ?_) | (with_reducible refine RL.wanted ?_ ?_; exact rfl) | ((with_reducible show RH _ _ _ ⟨some 3, .box _ _, _, _, _, _⟩ _ _ _ _); (refine RH.boxAgg rfl rfl ?_; rintro _ _ ⟨b3, rfl, rfl⟩)) | ((with_reducible show RH _ _ _ _ _ _ _ _); refine RH.val (hK := ?_)) | (with_reducible show RL _ _ _ (_ :: _) _ _ _; first | refine RL.guardYes rfl rfl rfl rfl ?_ | refine RL.guardNoS rfl rfl rfl rfl rfl rfl ?_ | refine RL.splitD rfl rfl rfl (fun h => ?_) (fun h => ?_)) | (with_reducible first | refine Run.seq ?_ | refine Run.region ?_ | refine Run.block ?_ | refine Run.skip ?_ | refine Run.ret ?_) | (with_reducible show Run _ _ (.cond _ _ _) _ _ _; first | refine Run.condT rfl ?_ | refine Run.condD rfl (fun h => ?_) (fun h => ?_)) | (with_reducible first | refine seqN (K := Run _ _ _ _) ?_ | refine seqR ?_))
  · refine ⟨eA, _, [], resA, .ch .nil, ?_⟩
    exact ⟨congrArg vbool (by rw [relB, decide_eq_false (by omega), Bool.false_and]), rfl⟩
  · refine ⟨eA, _, [], resA, .ch .nil, ?_⟩
    exact ⟨congrArg vbool (by rw [relB, decide_eq_false (by omega), Bool.false_and]), rfl⟩
  · have ha : 1 ≤ a ∧ a ≤ 3 := by omega
    refine Run.loop (α := Nat) (fun j => [(0, vint n), (3, vptr b3 0), (16, vsl 1 (fun t : List Int => [vsl 1 (fun x : Int => [vint x]) t]) xs), (17, vint (xs.length : Int)), (18, vint (j : Int))]) (fun _ => [hcells b3 [vint a, vsl 1 (fun t : List Int => [vsl 1 (fun x : Int => [vint x]) t]) xs]]) (fun j => j ≤ xs.length ∧ (List.range j).all (tupAt n a xs) = true) (fun j => xs.length - j) 0 (by simp) (Ent.of slA chA) ?_
    rintro j ⟨hj, ht⟩
    repeat' (first | (with_reducible first | refine RL.done ?_ | refine RL.app0 ?_) | (with_reducible refine RL.wanted ?_ ?_; exact rfl) | ((with_reducible show RH _ _ _ ⟨_, .call ⟨.value (.func 87), _, _⟩, _, _, _, _⟩ _ _ _ _); refine RH.cP Try.call87 ?_; refine ⟨_, inSize_c _ _ (hr _ (List.getElem_mem _)), ?_⟩; rintro _ _ ⟨rfl, rfl⟩) | ((with_reducible show RH _ _ _ ⟨_, .call ⟨.value (.func 134), _, _⟩, _, _, _, _⟩ _ _ _ _); refine RH.cP Try.call134 ?_; refine ⟨_, compareLists_c _ _ (hr _ (List.getElem_mem _)) (hr _ (List.getElem_mem _)), ?_⟩; rintro _ _ ⟨rfl, rfl⟩) | ((with_reducible show RH _ _ _ _ _ _ _ _); refine RH.val (hK := ?_)) | (with_reducible show RL _ _ _ (_ :: _) _ _ _; first | refine RL.guardYes rfl rfl rfl rfl ?_ | refine RL.guardNoS rfl rfl rfl rfl rfl rfl ?_ | refine RL.splitD rfl rfl rfl (fun h => ?_) (fun h => ?_) | refine RL.splitNB rfl rfl rfl (fun h => ?_) (fun h => ?_)) | (with_reducible first | refine Run.seq ?_ | refine Run.region ?_ | refine Run.block ?_ | refine Run.skip ?_ | refine Run.exit ?_ | refine Run.ret ?_) | (with_reducible show Run _ _ (.cond _ _ _) _ _ _; first | refine Run.condT rfl ?_ | refine Run.condF rfl ?_ | refine Run.condD rfl (fun h => ?_) (fun h => ?_)) | (with_reducible first | refine seqN (K := Run _ _ _ _) ?_ | refine seqE ?_ | refine seqR ?_ | refine blockN ?_ | refine blockR ?_ | refine blockE ?_))
    · refine ⟨eA, _, [], resA, .ch .nil, ?_⟩
      exact ⟨congrArg vbool (by rw [relB, rangeAll_false _ j _ (by omega) (tupAt_no1 (by omega) (by rw [decide_eq_false (by assumption)]; rfl)), Bool.and_false]), rfl⟩
    · refine ⟨eA, _, [], resA, .ch .nil, ?_⟩
      have h5 : elB n xs[j] = false := by assumption
      exact ⟨congrArg vbool (by rw [relB, rangeAll_false _ j _ (by omega) (tupAt_no1 (by omega) (by rw [h5, Bool.and_false])), Bool.and_false]), rfl⟩
    · refine ⟨eA, _, [], resA, .ch .nil, ?_⟩
      have h5 : 0 ≤ cmp xs[((j : Int) - 1).toNat] xs[j] := by assumption
      have h6 := tupAt_len (show j - 1 < xs.length by omega) (rangeAll_at ht (by omega))
      rw [prevAt (by omega) (by omega), cmp_less (by omega)] at h5
      exact ⟨congrArg vbool (by rw [relB, rangeAll_false _ j _ (by omega) (tupAt_no2 (by omega) (by omega) h5), Bool.and_false]), rfl⟩
    · with_reducible refine seqN ?_
      have h4 : elB n xs[j] = true := by assumption
      have h5 : ¬ 0 ≤ cmp xs[((j : Int) - 1).toNat] xs[j] := by assumption
      have h6 := tupAt_len (show j - 1 < xs.length by omega) (rangeAll_at ht (by omega))
      rw [prevAt (by omega) (by omega), cmp_less (by omega), Bool.not_eq_false] at h5
      exact ⟨j + 1, ⟨by omega, by rw [rangeAll_succ, ht, tupAt_yes (by omega) (by rw [decide_eq_true (by omega), h4]; rfl) (fun h0 => h5)]; rfl⟩, by omega, Ent.of slA chA⟩
    · with_reducible refine seqN ?_
      have h4 : elB n xs[j] = true := by assumption
      exact ⟨j + 1, ⟨by omega, by rw [rangeAll_succ, ht, tupAt_yes (by omega) (by rw [decide_eq_true (by omega), h4]; rfl) (fun h0 => by omega)]; rfl⟩, by omega, Ent.of slA chA⟩
    · obtain rfl : j = xs.length := by omega
      refine ⟨eA, _, [], resA, .ch .nil, ?_⟩
      exact ⟨congrArg vbool (by rw [relB, decide_eq_true ha, ht]; rfl), rfl⟩

def relOk (n a : Int) (xs : List (List Int)) : Bool := decide (1 ≤ n ∧ n ≤ 8) && relB n a xs
theorem relOk_no {n a : Int} {xs : List (List Int)} (h : ¬ (1 ≤ n ∧ n ≤ 8)) : relOk n a xs = false := by rw [relOk, decide_eq_false h, Bool.false_and]
theorem relOk_at {n a : Int} {xs : List (List Int)} (h : 1 ≤ n ∧ n ≤ 8) : relOk n a xs = relB n a xs := by rw [relOk, decide_eq_true h, Bool.true_and]
set_option maxRecDepth 10000 in
theorem hasRelation_c (n a : Int) (xs : List (List Int)) (hl : xs.length ≤ 4611686018427387904) (hr : ∀ t ∈ xs, t.length ≤ 4611686018427387904) :
    Spec Try.prog 67 [vint n, vagg [vint a, vsl 1 (fun t : List Int => [vsl 1 (fun x : Int => [vint x]) t]) xs]] [] (fun r S' => r = vbool (relOk n a xs) ∧ S' = []) := by
  refine Spec.of_run2 (n := 12) Try.func67 rfl Try.results67 Try.ntmps67 rfl ?_
  repeat' (first | (with_reducible first | refine RL.done ?_ | refine RL.app0 ?_) | (with_reducible refine RL.wanted ?_ ?_; exact rfl) | ((with_reducible show RH _ _ _ ⟨some 3, .box _ _, _, _, _, _⟩ _ _ _ _); (refine RH.boxAgg rfl rfl ?_; rintro _ _ ⟨b3, rfl, rfl⟩)) | ((with_reducible show RH _ _ _ ⟨_, .call ⟨.value (.func 86), _, _⟩, _, _, _, _⟩ _ _ _ _); refine RH.cP Try.call86 ?_; refine ⟨_, isSize_c _, ?_⟩; rintro _ _ ⟨rfl, rfl⟩) | ((with_reducible show RH _ _ _ ⟨_, .call ⟨.value (.func 68), _, _⟩, _, _, _, _⟩ _ _ _ _); refine RH.cP Try.call68 ?_; refine ⟨_, isRelation_c _ _ _ hl hr, ?_⟩; rintro _ _ ⟨rfl, rfl⟩) | ((with_reducible show RH _ _ _ _ _ _ _ _); refine RH.val (hK := ?_)) | (with_reducible show RL _ _ _ (_ :: _) _ _ _; first | refine RL.guardYes rfl rfl rfl rfl ?_ | refine RL.guardNoS rfl rfl rfl rfl rfl rfl ?_ | refine RL.splitD rfl rfl rfl (fun h => ?_) (fun h => ?_)) | (with_reducible first | refine Run.seq ?_ | refine Run.region ?_ | refine Run.ret ?_) | (with_reducible refine seqN (K := Run _ _ _ _) ?_))
  · refine ⟨eA, _, [], resA, .ch .nil, ?_⟩
    exact ⟨congrArg vbool (relOk_at (by assumption)).symm, rfl⟩
  · refine ⟨eA, _, [], resA, .ch .nil, ?_⟩
    exact ⟨congrArg vbool (relOk_no (by assumption)).symm, rfl⟩
end Go.Proofs.Ytiifdhdhjioefaa
