/- The first tuples for which an operation leaves a relation: spec.l13Break, impl.firstBreak. Proved for this program; conditions: a valid relation and operation, tables of up to 2^30 lists of tuples. -/
import Derived.Test.YtiifdhdhjioefaaAppl
import Derived.Test.YtiifdhdhjioefaaNext
import Derived.Test.YtiifdhdhjioefaaHas
import Derived.Test.YtiifdhdhjioefaaKeys
import Derived.Test.YtiifdhdhjioefaaOps
namespace Go.Proofs.Ytiifdhdhjioefaa
open Go Go.Proofs
set_option linter.unusedVariables false

/-- the i-th list of numbers of tuples, and the result for these -/
def brkAt (n : Int) (k : Nat) (tb : List Int) (ar : Nat) (xs : List (List Int)) (i : Nat) : List Int × List Int := (lowd (i : Int) (xs.length : Int) k, applyT n tb (chosen xs (lowd (i : Int) (xs.length : Int) k)) ar)
def brkBad (n : Int) (k : Nat) (tb : List Int) (ar : Nat) (xs : List (List Int)) (i : Nat) : Bool := !decide ((brkAt n k tb ar xs i).2 ∈ xs)
def brkF (n : Int) (k : Nat) (tb : List Int) (ar : Nat) (xs : List (List Int)) : Option (List Int × List Int) := ((List.range (pw (xs.length : Int) k).toNat).find? (brkBad n k tb ar xs)).map (brkAt n k tb ar xs)
def brk1 (o : Option (List Int × List Int)) : List Int := match o with | some p => p.1 | none => []
def brk2 (o : Option (List Int × List Int)) : List Int := match o with | some p => p.2 | none => []
theorem find_range {f : Nat → Bool} {i m : Nat} (h1 : ∀ j, j < i → f j = false) (hi : i < m) (h2 : f i = true) : (List.range m).find? f = some i := by
  rw [List.find?_range_eq_some]
  exact ⟨h2, List.mem_range.2 hi, fun j hj => by simp [h1 j hj]⟩
theorem find_range_none {f : Nat → Bool} {m : Nat} (h1 : ∀ j, j < m → f j = false) : (List.range m).find? f = none := by
  rw [List.find?_range_eq_none]
  intro j hj; simp [h1 j hj]
theorem lowd_range (i n : Int) (h0 : 0 ≤ i) (hn : 1 ≤ n) : ∀ m, ∀ x ∈ lowd i n m, 0 ≤ x ∧ x < n
  | 0, x, h => by cases h
  | m + 1, x, h => by
    rcases List.mem_cons.1 h with rfl | h
    · exact ⟨Int.emod_nonneg _ (by omega), Int.emod_lt_of_pos _ (by omega)⟩
    · exact lowd_range i n h0 hn m x h
/-- what the search needs -/
structure BrOk (n : Int) (k : Nat) (tb : List Int) (ar : Nat) (xs : List (List Int)) : Prop where
  n1 : 1 ≤ n
  n8 : n ≤ 8
  k3 : k ≤ 3
  tab : (tb.length : Int) = pw n k
  tel : elB n tb = true
  ar3 : ar ≤ 3
  row : ∀ t ∈ xs, t.length = ar ∧ elB n t = true
  few : xs.length ≤ 1048576
  all : pw (xs.length : Int) k ≤ 1073741824
  srt : Sorted xs
theorem BrOk.num {n : Int} {k : Nat} {tb : List Int} {ar : Nat} {xs : List (List Int)} (h : BrOk n k tb ar xs) {i : Nat} (hi : (i : Int) < pw (xs.length : Int) k) : ∀ x ∈ lowd (i : Int) (xs.length : Int) k, 0 ≤ x ∧ x.toNat < xs.length := by
  intro x hx
  rcases Nat.eq_zero_or_pos xs.length with e | e
  · rw [e] at hi hx
    cases k with
    | zero => cases hx
    | succ k => simp [pw] at hi; omega
  · have := lowd_range (i : Int) (xs.length : Int) (by omega) (by omega) k x hx
    omega
theorem BrOk.ap {n : Int} {k : Nat} {tb : List Int} {ar : Nat} {xs : List (List Int)} (h : BrOk n k tb ar xs) {i : Nat} (hi : (i : Int) < pw (xs.length : Int) k) : ApOk n tb (chosen xs (lowd (i : Int) (xs.length : Int) k)) ar := by
  have hl : (chosen xs (lowd (i : Int) (xs.length : Int) k)).length = k := by simp [chosen, lowd_length]
  refine ⟨h.n1, h.n8, by rw [hl]; exact h.k3, by rw [hl]; exact h.tab, fun t ht => ?_, by have := h.ar3; omega⟩
  obtain ⟨x, hx, rfl⟩ := List.mem_map.1 ht
  have h1 := h.num hi x hx
  rw [List.getD_eq_getElem?_getD, List.getElem?_eq_getElem h1.2]
  obtain ⟨h2, h3⟩ := h.row _ (List.getElem_mem h1.2)
  exact ⟨Nat.le_of_eq h2.symm, h3⟩
theorem BrOk.at_some {n : Int} {k : Nat} {tb : List Int} {ar : Nat} {xs : List (List Int)} (h : BrOk n k tb ar xs) {i : Nat} (hi : (i : Int) < pw (xs.length : Int) k) (h1 : ∀ j, j < i → brkBad n k tb ar xs j = false) (h2 : (brkAt n k tb ar xs i).2 ∉ xs) : brkF n k tb ar xs = some (brkAt n k tb ar xs i) := by
  rw [brkF, find_range h1 (by omega) (by simp [brkBad, h2])]; rfl
theorem BrOk.at_none {n : Int} {k : Nat} {tb : List Int} {ar : Nat} {xs : List (List Int)} (h : BrOk n k tb ar xs) {i : Nat} (hi : ¬ (i : Int) < pw (xs.length : Int) k) (h1 : ∀ j, j < i → brkBad n k tb ar xs j = false) : brkF n k tb ar xs = none := by
  rw [brkF, find_range_none (fun j hj => h1 j (by omega))]; rfl
theorem brk_step {n : Int} {k : Nat} {tb : List Int} {ar : Nat} {xs : List (List Int)} {i : Nat} (h1 : ∀ j, j < i → brkBad n k tb ar xs j = false) (h2 : (brkAt n k tb ar xs i).2 ∈ xs) : ∀ j, j < i + 1 → brkBad n k tb ar xs j = false := fun j hj => by
  rcases Nat.lt_or_eq_of_le (Nat.lt_succ_iff.1 hj) with h | rfl
  · exact h1 j h
  · simp [brkBad, h2]
abbrev BreakRes (o : Option (List Int × List Int)) (r : VP) (S' : List HP) : Prop := ∃ s1 s2 : Sv, r = vtup [vlit (vsv s1), vlit (vsv s2), vbool o.isSome] ∧ S' = [hsl tInt (vsv s1) (brk1 o), hsl tInt (vsv s2) (brk2 o)]
theorem lowd_zero (n : Int) : ∀ m, lowd 0 n m = List.replicate m 0
  | 0 => rfl
  | m + 1 => by
    have : ∀ m, dv 0 n m = 0 := fun m => by
      induction m with
      | zero => rfl
      | succ m ih => rw [dv, ih]; simp
    rw [lowd, lowd_zero n m, this]; simp [List.replicate_succ]

theorem BrOk.next {n : Int} {k : Nat} {tb : List Int} {ar : Nat} {xs : List (List Int)} (h : BrOk n k tb ar xs) {i : Nat} (hi : (i : Int) < pw (xs.length : Int) k) :
    (nextL (xs.length : Int) (lowd (i : Int) (xs.length : Int) k)).2 = decide ((i : Int) + 1 < pw (xs.length : Int) k) ∧ ((i : Int) + 1 < pw (xs.length : Int) k → (nextL (xs.length : Int) (lowd (i : Int) (xs.length : Int) k)).1 = lowd ((i + 1 : Nat) : Int) (xs.length : Int) k) := by
  rcases Nat.eq_zero_or_pos xs.length with e | e
  · rw [e] at hi ⊢
    cases k with
    | zero =>
      have : i = 0 := by simp [pw] at hi; omega
      subst this
      exact ⟨rfl, fun h => by simp [pw] at h⟩
    | succ k => simp [pw] at hi; omega
  · exact nextL_lowd (xs.length : Int) (by omega) k (i : Int) (by omega) hi

theorem applyT_put (n : Int) (tb : List Int) (ts : List (List Int)) (R : List Int) (m p : Nat) (hR : R.length = m) (h : p < m) (hv : (hor n (colT ts p)).toNat < tb.length) :
    (applyT n tb ts p ++ R.drop p).set p (tb[(hor n (colT ts p)).toNat]) = applyT n tb ts (p + 1) ++ R.drop (p + 1) := by
  rw [List.set_append_right _ _ (by simp [applyT_length]), applyT_length, Nat.sub_self, List.drop_eq_getElem_cons (by omega), List.set_cons_zero, applyT_succ, getD_g _ _ _ hv, List.append_assoc]
  rfl
theorem lowd_put (L : List Int) (i n : Int) (k m : Nat) (hL : L.length = k) (h : m < k) :
    (L.take (k - m) ++ lowd i n m).set (((k : Int) - 1 - m).toNat) (dv i n m % n) = L.take (k - (m + 1)) ++ lowd i n (m + 1) := by
  have e : k - m = (k - (m + 1)) + 1 := by omega
  have e2 : ((k : Int) - 1 - m).toNat = k - (m + 1) := by omega
  have hl : (L.take (k - (m + 1))).length = k - (m + 1) := by simp; omega
  rw [e, take_snoc L _ (by omega), e2, set_mid _ _ _ _ _ hl.symm, List.append_assoc]
  rfl
set_option maxRecDepth 10000 in
set_option maxHeartbeats 4000000 in
theorem firstBreak_c (n : Int) (k : Nat) (tb : List Int) (ar : Nat) (xs : List (List Int)) (hb : BrOk n k tb ar xs) :
    Spec Try.prog 108 [vint n, vagg [vint (k : Int), vsl 1 (fun x : Int => [vint x]) tb], vagg [vint (ar : Int), vsl 1 (fun t : List Int => [vsl 1 (fun x : Int => [vint x]) t]) xs]] [] (BreakRes (brkF n k tb ar xs)) := by
  have hk := hb.k3
  have hfew := hb.few
  have har := hb.ar3
  have hall := hb.all
  have hrow2 : ∀ t ∈ xs, t.length ≤ 1048576 := fun t ht => by have := (hb.row t ht).1; omega
  have hpos : 0 ≤ pw (xs.length : Int) k := pw_nonneg _ (by omega) _
  have hby : ∀ u ∈ xs, ∀ x ∈ u, 0 ≤ x ∧ x < 65536 := fun u hu x hx => by
    have h1 := (hb.row u hu).2
    rw [elB, List.all_eq_true] at h1
    have h2 := h1 x hx
    have h3 := hb.n8
    simp only [decide_eq_true_eq] at h2
    omega
  refine Spec.of_run2 (n := 96) Try.func108 rfl Try.results108 Try.ntmps108 rfl ?_
  repeat' (first | (with_reducible first | refine RL.done ?_ | refine RL.app1 ?_) | (with_reducible refine RL.wanted ?_ ?_; exact rfl) | ((with_reducible show RH _ _ _ ⟨some 4, .box _ _, _, _, _, _⟩ _ _ _ _); (refine RH.boxAgg rfl rfl ?_; rintro _ _ ⟨b4, rfl, rfl⟩)) | ((with_reducible show RH _ _ _ ⟨some 5, .box _ _, _, _, _, _⟩ _ _ _ _); (refine RH.boxAgg rfl rfl ?_; rintro _ _ ⟨b5, rfl, rfl⟩)) | ((with_reducible show RH _ _ _ ⟨some 27, .makeSlice _ _ _, _, _, _, _⟩ _ _ _ _); refine RH.make (α := Int) rfl (fun x => [vint x]) 0 (fun c => .cons rfl .nil) rfl rfl (by omega) (by omega) (by omega) ?_; rintro _ _ ⟨b27, rfl, rfl⟩) | ((with_reducible show RH _ _ _ ⟨some 30, .makeSlice _ _ _, _, _, _, _⟩ _ _ _ _); refine RH.make (α := Int) rfl (fun x => [vint x]) 0 (fun c => .cons rfl .nil) rfl rfl (by omega) (by omega) (by omega) ?_; rintro _ _ ⟨b30, rfl, rfl⟩) | ((with_reducible show RH _ _ _ ⟨_, .call ⟨.value (.func 75), _, _⟩, _, _, _, _⟩ _ _ _ _); refine RH.cP Try.call75 ?_; refine ⟨_, tupleSet_c (ar : Int) xs (by omega) hrow2, ?_⟩; rintro _ _ ⟨bs, rfl, rfl⟩) | ((with_reducible show RH _ _ _ _ _ _ _ _); refine RH.val (hK := ?_)) | (with_reducible first | refine Run.seq ?_ | refine Run.region ?_ | refine Run.block ?_) | (with_reducible refine seqN (K := Run _ _ _ _) ?_))
  refine Run.loop (α := Nat × List Int × List Int) (fun x => [(0, vint n), (4, vptr b4 0), (5, vptr b5 0), (9, vmap bs), (10, vint (xs.length : Int)), (11, vsb b27 k k), (12, vsb b30 ar ar), (13, vint (x.1 : Int))])
    (fun x => [harr b30 1 (fun x : Int => [vint x]) x.2.2 (ar * 1), harr b27 1 (fun x : Int => [vint x]) x.2.1 (k * 1), hset bs (xs.map keyS), hcells b5 [vint (ar : Int), vsl 1 (fun t : List Int => [vsl 1 (fun x : Int => [vint x]) t]) xs], hcells b4 [vint (k : Int), vsl 1 (fun x : Int => [vint x]) tb]])
    (fun x => (∀ j, j < x.1 → brkBad n k tb ar xs j = false) ∧ (x.1 : Int) ≤ pw (xs.length : Int) k ∧ x.2.1.length = k ∧ x.2.2.length = ar) (fun x => (pw (xs.length : Int) k).toNat - x.1) (0, List.replicate k 0, List.replicate ar 0) ⟨fun j hj => absurd hj (by simp), by simpa using hpos, by simp, by simp⟩ (Ent.of slA chA) ?_
  rintro ⟨i, L, R⟩ ⟨hbad, hle, hL, hR⟩
  dsimp only at hbad hle hL hR ⊢
  by_cases hi : (i : Int) < pw (xs.length : Int) k
  · have hnum := hb.num hi
    have hap := hb.ap hi
    have hll := lowd_length (i : Int) (xs.length : Int) k
    repeat' (first | (with_reducible first | refine RL.done ?_ | refine RL.app0 ?_) | (with_reducible refine RL.wanted ?_ ?_; exact rfl) | ((with_reducible show RH _ _ _ ⟨_, .call ⟨.value (.func 91), _, _⟩, _, _, _, _⟩ _ _ _ _); refine RH.cP Try.call91 ?_; refine ⟨_, power_c (xs.length : Int) k (by omega) (by omega) (by omega), ?_⟩; rintro _ _ ⟨rfl, rfl⟩) | ((with_reducible show RH _ _ _ _ _ _ _ _); refine RH.val (hK := ?_)) | (with_reducible first | refine Run.seq ?_ | refine Run.region ?_ | refine Run.block ?_ | refine Run.skip ?_ | refine Run.exit ?_ | refine Run.ret ?_) | (with_reducible show Run _ _ (.cond _ _ _) _ _ _; refine Run.condD rfl (fun h => ?_) (fun h => ?_)) | (with_reducible first | refine seqN (K := Run _ _ _ _) ?_ | refine seqE ?_ | refine blockE ?_))
    · refine Run.loop (α := Nat) (fun m => [(0, vint n), (4, vptr b4 0), (5, vptr b5 0), (9, vmap bs), (10, vint (xs.length : Int)), (11, vsb b27 k k), (12, vsb b30 ar ar), (13, vint (i : Int)), (14, vint (dv (i : Int) (xs.length : Int) m)), (15, vint ((k : Int) - 1 - (m : Int)))])
        (fun m => [harr b30 1 (fun x : Int => [vint x]) R (ar * 1), harr b27 1 (fun x : Int => [vint x]) (L.take (k - m) ++ lowd (i : Int) (xs.length : Int) m) (k * 1), hset bs (xs.map keyS), hcells b5 [vint (ar : Int), vsl 1 (fun t : List Int => [vsl 1 (fun x : Int => [vint x]) t]) xs], hcells b4 [vint (k : Int), vsl 1 (fun x : Int => [vint x]) tb]])
        (fun m => m ≤ k) (fun m => k - m) 0 (by simp) (Ent.of (by (repeat (first | exact Sl.nil | refine Sl.cons rfl rfl ?_ | refine Sl.cons rfl (congrArg (fun z => vlit (Value.int .i64 z)) (by omega)) ?_ | refine Sl.cons rfl (by simp [dv]) ?_))) (.cons .head rfl (.cons .head (by simp [lowd, ← hL]) chA))) ?_
      intro m hm
      have hlm : (L.take (k - m) ++ lowd (i : Int) (xs.length : Int) m).length = k := by simp [lowd_length]; omega
      rcases Nat.lt_or_eq_of_le hm with h9 | rfl
      · have hM : 1 ≤ (xs.length : Int) := by
          rcases Nat.eq_zero_or_pos xs.length with e | e
          · rw [e] at hi
            obtain ⟨k, rfl⟩ := Nat.exists_eq_succ_of_ne_zero (by omega : k ≠ 0)
            simp [pw] at hi; omega
          · omega
        have hd := dv_bound (i : Int) (xs.length : Int) (by omega) hM m
        have hset := lowd_put L (i : Int) (xs.length : Int) k m hL h9
        repeat' (first | (with_reducible refine RL.done ?_) | (with_reducible refine RL.wanted ?_ ?_; exact rfl) | ((with_reducible show RH _ _ _ _ _ _ _ _); first | refine RH.val (hK := ?_) | refine RH.upd (hK := ?_)) | (with_reducible first | refine Run.seq ?_ | refine Run.region ?_ | refine Run.block ?_ | refine Run.skip ?_ | refine Run.exit ?_) | (with_reducible show Run _ _ (.cond _ _ _) _ _ _; refine Run.condD rfl (fun h => ?_) (fun h => ?_)) | (with_reducible first | refine seqN (K := Run _ _ _ _) ?_ | refine seqE ?_ | refine blockN ?_ | refine blockE ?_))
        · with_reducible refine seqN ?_
          exact ⟨m + 1, by omega, by omega, Ent.of (by (repeat (first | exact Sl.nil | refine Sl.cons rfl rfl ?_ | refine Sl.cons rfl (congrArg (fun z => vlit (Value.int .i64 z)) (by omega)) ?_ | refine Sl.cons rfl (rfl) ?_))) (.cons .head rfl (.cons .head (congrArg (fun ys => harr b27 1 (fun x : Int => [vint x]) ys (k * 1)) hset) chA))⟩
        · exfalso; omega
      · rw [Nat.sub_self, List.take_zero, List.nil_append] at *
        repeat' (first | (with_reducible refine RL.done ?_) | (with_reducible refine RL.wanted ?_ ?_; exact rfl) | ((with_reducible show RH _ _ _ _ _ _ _ _); first | refine RH.val (hK := ?_) | refine RH.upd (hK := ?_)) | (with_reducible first | refine Run.seq ?_ | refine Run.region ?_ | refine Run.block ?_ | refine Run.skip ?_ | refine Run.exit ?_) | (with_reducible show Run _ _ (.cond _ _ _) _ _ _; refine Run.condD rfl (fun h => ?_) (fun h => ?_)) | (with_reducible first | refine seqN (K := Run _ _ _ _) ?_ | refine seqE ?_ | refine blockN ?_ | refine blockE ?_))
        · exfalso; omega
        · refine Run.loop (α := Nat) (fun j => [(0, vint n), (4, vptr b4 0), (5, vptr b5 0), (9, vmap bs), (10, vint (xs.length : Int)), (11, vsb b27 m m), (12, vsb b30 ar ar), (13, vint (i : Int)), (57, vint (ar : Int)), (58, vint (j : Int))])
            (fun j => [harr b30 1 (fun x : Int => [vint x]) (applyT n tb (chosen xs (lowd (i : Int) (xs.length : Int) m)) j ++ R.drop j) (ar * 1), harr b27 1 (fun x : Int => [vint x]) (lowd (i : Int) (xs.length : Int) m) (m * 1), hset bs (xs.map keyS), hcells b5 [vint (ar : Int), vsl 1 (fun t : List Int => [vsl 1 (fun x : Int => [vint x]) t]) xs], hcells b4 [vint (m : Int), vsl 1 (fun x : Int => [vint x]) tb]])
            (fun j => j ≤ ar) (fun j => ar - j) 0 (by simp) (Ent.of slA (.cons .head (by simp [applyT]) chA)) ?_
          intro j hj
          have hlj : (applyT n tb (chosen xs (lowd (i : Int) (xs.length : Int) m)) j ++ R.drop j).length = ar := by simp [applyT_length]; omega
          rcases Nat.lt_or_eq_of_le hj with h8 | rfl
          · repeat' (first | (with_reducible refine RL.done ?_) | (with_reducible refine RL.wanted ?_ ?_; exact rfl) | ((with_reducible show RH _ _ _ _ _ _ _ _); refine RH.val (hK := ?_)) | (with_reducible first | refine Run.seq ?_ | refine Run.region ?_ | refine Run.block ?_ | refine Run.skip ?_ | refine Run.exit ?_) | (with_reducible show Run _ _ (.cond _ _ _) _ _ _; refine Run.condD rfl (fun h => ?_) (fun h => ?_)) | (with_reducible first | refine seqN (K := Run _ _ _ _) ?_ | refine seqE ?_ | refine blockE ?_))
            · refine Run.loop (α := Nat) (fun q => [(0, vint n), (4, vptr b4 0), (5, vptr b5 0), (9, vmap bs), (10, vint (xs.length : Int)), (11, vsb b27 m m), (12, vsb b30 ar ar), (13, vint (i : Int)), (57, vint (ar : Int)), (58, vint (j : Int)), (16, vint (j : Int)), (17, vint (hor n ((colT (chosen xs (lowd (i : Int) (xs.length : Int) m)) j).take q))), (61, vsb b27 m m), (62, vint (m : Int)), (63, vint (q : Int))])
                (fun q => [harr b30 1 (fun x : Int => [vint x]) (applyT n tb (chosen xs (lowd (i : Int) (xs.length : Int) m)) j ++ R.drop j) (ar * 1), harr b27 1 (fun x : Int => [vint x]) (lowd (i : Int) (xs.length : Int) m) (m * 1), hset bs (xs.map keyS), hcells b5 [vint (ar : Int), vsl 1 (fun t : List Int => [vsl 1 (fun x : Int => [vint x]) t]) xs], hcells b4 [vint (m : Int), vsl 1 (fun x : Int => [vint x]) tb]])
                (fun q => q ≤ m) (fun q => m - q) 0 (by simp) (Ent.of slA chA) ?_
              intro q hq
              have hn8 := hb.n8
              have hn1 := hb.n1
              have hcl : (chosen xs (lowd (i : Int) (xs.length : Int) m)).length = m := by simp [chosen, hll]
              rcases Nat.lt_or_eq_of_le hq with h7 | rfl
              · have hx := hnum _ (List.getElem_mem (show q < (lowd (i : Int) (xs.length : Int) m).length by omega))
                have hcx : (chosen xs (lowd (i : Int) (xs.length : Int) m))[q]'(by omega) = xs[((lowd (i : Int) (xs.length : Int) m)[q]'(by omega)).toNat]'hx.2 := by simp [chosen, hx.2]
                obtain ⟨hl2, hv1, hv2, hs, hb1, hb2, hb3, hb4⟩ := hap.step h8 (show q < (chosen xs (lowd (i : Int) (xs.length : Int) m)).length by omega)
                simp only [hcx] at hl2 hv1 hv2 hs
                repeat' (first | (with_reducible refine RL.done ?_) | (with_reducible refine RL.wanted ?_ ?_; exact rfl) | ((with_reducible show RH _ _ _ _ _ _ _ _); first | refine RH.val (hK := ?_) | refine RH.upd (hK := ?_)) | (with_reducible first | refine Run.seq ?_ | refine Run.region ?_ | refine Run.block ?_ | refine Run.skip ?_ | refine Run.exit ?_) | (with_reducible show Run _ _ (.cond _ _ _) _ _ _; refine Run.condD rfl (fun h => ?_) (fun h => ?_)) | (with_reducible first | refine seqN (K := Run _ _ _ _) ?_ | refine seqE ?_ | refine blockN ?_ | refine blockE ?_))
                · with_reducible refine seqN ?_
                  exact ⟨q + 1, by omega, by omega, Ent.of (by rw [hs]; exact slA) chA⟩
                · exfalso; omega
              · obtain ⟨hv1, hv2⟩ := hap.idx h8
                have hc : (colT (chosen xs (lowd (i : Int) (xs.length : Int) q)) j).take q = colT (chosen xs (lowd (i : Int) (xs.length : Int) q)) j := List.take_of_length_le (by rw [colT_length]; omega)
                rw [hc]
                have hset := applyT_put n tb (chosen xs (lowd (i : Int) (xs.length : Int) q)) R ar j hR h8 hv2
                repeat' (first | (with_reducible refine RL.done ?_) | (with_reducible refine RL.wanted ?_ ?_; exact rfl) | ((with_reducible show RH _ _ _ _ _ _ _ _); first | refine RH.val (hK := ?_) | refine RH.upd (hK := ?_)) | (with_reducible first | refine Run.seq ?_ | refine Run.region ?_ | refine Run.block ?_ | refine Run.skip ?_ | refine Run.exit ?_) | (with_reducible show Run _ _ (.cond _ _ _) _ _ _; refine Run.condD rfl (fun h => ?_) (fun h => ?_)) | (with_reducible first | refine seqN (K := Run _ _ _ _) ?_ | refine seqE ?_ | refine blockN ?_ | refine blockE ?_))
                · exfalso; omega
                · with_reducible refine seqN ?_
                  exact ⟨j + 1, by omega, by omega, Ent.of slA (.cons .head (congrArg (fun ys => harr b30 1 (fun x : Int => [vint x]) ys (ar * 1)) hset) chA)⟩
            · exfalso; omega
          · rw [List.drop_of_length_le (by omega), List.append_nil] at *
            have hmem := keyS_mem (t := applyT n tb (chosen xs (lowd (i : Int) (xs.length : Int) m)) j) (xs := xs) (fun x hx => by
              have h1 := applyT_el hap hb.tel
              rw [elB, List.all_eq_true] at h1
              have h2 := h1 x hx
              have h3 := hb.n8
              simp only [decide_eq_true_eq] at h2
              omega) hby
            repeat' (first | (with_reducible refine RL.done ?_) | (with_reducible refine RL.wanted ?_ ?_; exact rfl) | ((with_reducible show RH _ _ _ ⟨_, .call ⟨.value (.func 76), _, _⟩, _, _, _, _⟩ _ _ _ _); refine RH.cL Try.call76 ?_; apply Exists.intro; apply And.intro; (focus ((repeat (first | exact LVs.nil | (apply LVs.arr; (with_reducible repeat (exact Has.head)); (omega); exact rfl))); done)); refine ⟨_, keyOf_c _ (by simp only [applyT_length]; omega), (by intro r H h; first | (obtain ⟨rfl, rfl⟩ := h; exact ⟨inferInstance, inferInstance⟩) | (obtain ⟨_, rfl, rfl⟩ := h; exact ⟨inferInstance, inferInstance⟩) | (obtain ⟨_, _, rfl, rfl⟩ := h; exact ⟨inferInstance, inferInstance⟩) | (obtain ⟨_, _, rfl, rfl, _⟩ := h; exact ⟨inferInstance, inferInstance⟩)), ?_⟩; rintro _ _ ⟨rfl, rfl⟩; refine RL.nm ?_) | ((with_reducible show RH _ _ _ _ _ _ _ _); refine RH.val (hK := ?_)) | (with_reducible first | refine Run.seq ?_ | refine Run.region ?_ | refine Run.block ?_ | refine Run.skip ?_ | refine Run.exit ?_ | refine Run.ret ?_) | (with_reducible show Run _ _ (.cond _ _ _) _ _ _; first | refine Run.condD rfl (fun h => ?_) (fun h => ?_) | refine Run.condND rfl (fun h => ?_) (fun h => ?_)) | (with_reducible first | refine seqN (K := Run _ _ _ _) ?_ | refine seqE ?_ | refine seqR ?_ | refine blockN ?_ | refine blockR ?_ | refine blockE ?_))
            · exfalso; omega
            · have hS := hb.at_some hi hbad (fun e => (by assumption : ¬ _) (hmem.2 e))
              refine ⟨eA, _, [hsl tInt (vsv (some ⟨b27, 0, none⟩, m, m)) (lowd (i : Int) (xs.length : Int) m), hsl tInt (vsv (some ⟨b30, 0, none⟩, j, j)) (applyT n tb (chosen xs (lowd (i : Int) (xs.length : Int) m)) j)], resA, ?_, ?_⟩
              · exact (SEnt.ch (.cons .head rfl (.cons .head rfl .nil))).trans ((SEnt.pack (fun _ => rfl) (by rw [applyT_length])).trans ((SEnt.pick (.cons (.tail .head) .nil)).trans ((SEnt.pack (fun _ => rfl) hll.symm).trans (SEnt.pick (.cons .head (.cons .head .nil))))))
              · exact ⟨(some ⟨b27, 0, none⟩, m, m), (some ⟨b30, 0, none⟩, j, j), by rw [hS]; rfl, by rw [hS]; rfl⟩
            · with_reducible refine seqN ?_
              have hst := brk_step hbad (hmem.1 (by assumption))
              exact ⟨(i + 1, lowd (i : Int) (xs.length : Int) m, applyT n tb (chosen xs (lowd (i : Int) (xs.length : Int) m)) j), ⟨hst, by (try dsimp only); omega, hll, by rw [applyT_length]⟩, by (try dsimp only); omega, Ent.of slA chA⟩
    · exfalso; omega
  · have hN := hb.at_none hi hbad
    repeat' (first | (with_reducible first | refine RL.done ?_ | refine RL.app0 ?_) | (with_reducible refine RL.wanted ?_ ?_; exact rfl) | ((with_reducible show RH _ _ _ ⟨_, .call ⟨.value (.func 91), _, _⟩, _, _, _, _⟩ _ _ _ _); refine RH.cP Try.call91 ?_; refine ⟨_, power_c (xs.length : Int) k (by omega) (by omega) (by omega), ?_⟩; rintro _ _ ⟨rfl, rfl⟩) | ((with_reducible show RH _ _ _ _ _ _ _ _); refine RH.val (hK := ?_)) | (with_reducible first | refine Run.seq ?_ | refine Run.region ?_ | refine Run.block ?_ | refine Run.skip ?_ | refine Run.exit ?_ | refine Run.ret ?_) | (with_reducible show Run _ _ (.cond _ _ _) _ _ _; refine Run.condD rfl (fun h => ?_) (fun h => ?_)) | (with_reducible first | refine seqN (K := Run _ _ _ _) ?_ | refine seqE ?_ | refine blockE ?_))
    · exfalso; omega
    · refine ⟨eA, _, [hsl tInt (vsv (none, 0, 0)) [], hsl tInt (vsv (none, 0, 0)) []], resA, ?_, ?_⟩
      · exact ((SEnt.ch .nil).trans (SEnt.nil _ _)).trans (SEnt.nil _ _)
      · exact ⟨(none, 0, 0), (none, 0, 0), by rw [hN]; rfl, by rw [hN]; rfl⟩
end Go.Proofs.Ytiifdhdhjioefaa
