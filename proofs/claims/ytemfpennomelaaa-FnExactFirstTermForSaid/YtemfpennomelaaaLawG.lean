/- The laws' helpers by the shape of their types: sz, to, eq, mark. Proved for this program; conditions: the sizes that szX allows, or lengths below 2^62. -/
import Derived.Test.YtemfpennomelaaaLawI
namespace Go.Proofs.Ytemfpennomelaaa
open Go Go.Proofs
set_option linter.unusedVariables false

/-- a sum of numbers -/
def sm : List Nat → Nat
  | [] => 0
  | n :: r => n + sm r
theorem sm_append (xs ys : List Nat) : sm (xs ++ ys) = sm xs + sm ys := by
  induction xs with
  | nil => simp [sm]
  | cons x xs ih => simp [sm, ih]; omega
theorem sm_take {α : Type} (f : α → Nat) (xs : List α) (j : Nat) (h : j < xs.length) : sm ((xs.map f).take (j + 1)) = sm ((xs.map f).take j) + f xs[j] := by
  rw [List.take_add_one, List.getElem?_eq_getElem (by simpa using h), sm_append]; simp [sm]
theorem sm_take_le (xs : List Nat) (j : Nat) : sm (xs.take j) ≤ sm xs := by
  have := sm_append (xs.take j) (xs.drop j)
  rw [List.take_append_drop] at this; omega
theorem sm_mem {α : Type} (f : α → Nat) (xs : List α) (x : α) (h : x ∈ xs) : f x ≤ sm (xs.map f) := by
  induction xs with
  | nil => cases h
  | cons y xs ih =>
    simp only [List.map_cons, sm]
    rcases List.mem_cons.1 h with rfl | h
    · omega
    · have := ih h; omega
theorem cp_set {α : Type} (xs : List α) (z : α) (j : Nat) (h : j < xs.length) : (xs.take j ++ List.replicate (xs.length - j) z).set j xs[j] = xs.take (j + 1) ++ List.replicate (xs.length - (j + 1)) z := by
  have e : xs.length - j = (xs.length - (j + 1)) + 1 := by omega
  rw [List.set_append_right _ _ (by simp; omega), List.length_take, Nat.min_eq_left (by omega), Nat.sub_self, e, List.replicate_succ, List.set_cons_zero, show xs.take (j + 1) = xs.take j ++ [xs[j]] from by rw [List.take_add_one, List.getElem?_eq_getElem h]; rfl, List.append_assoc]
  rfl
theorem map_at {α β : Type} {f : α → β} {xs ys : List α} (h : xs.map f = ys.map f) {j : Nat} (h1 : j < xs.length) (h2 : j < ys.length) : f xs[j] = f ys[j] := by
  have := congrArg (fun l => l[j]?) h
  simpa [h1, h2] using this
theorem map_set_eq {α β : Type} (f : α → β) (xs : List α) (j : Nat) (y : α) (h : j < xs.length) (e : f y = f xs[j]) : (xs.set j y).map f = xs.map f := by
  rw [List.map_set, e]
  apply List.ext_getElem?
  intro i
  rw [List.getElem?_set]
  split
  · rename_i hi; subst hi; simp [h]
  · rfl

set_option maxRecDepth 10000 in
theorem szIntS_c (x : List Int) (left : Int) (h0 : 0 ≤ left) (h1 : left ≤ 1048576) (hg : x.length ≤ 9223372036854775807 ∧ ∀ y0 ∈ x, InR y0) :
    Spec Try.prog 19 [vsl 1 (fun x : Int => [vint x]) x, vint left] [] (fun r S' => ∃ q : Int, r = vint q ∧ S' = [] ∧ q ≤ 1048576 ∧ (0 ≤ q → q + ((x.length : Nat) : Int) = left)) := by
  refine Spec.of_run2 (n := 12) Try.func19 rfl Try.results19 Try.ntmps19 rfl ?_
  have hl := hg.1
  repeat' (first | (with_reducible refine RL.done ?_) | (with_reducible refine RL.wanted ?_ ?_; exact rfl) | ((with_reducible show RH _ _ _ _ _ _ _ _); refine RH.val (hK := ?_)) | (with_reducible first | refine Run.seq ?_ | refine Run.region ?_ | refine Run.skip ?_ | refine Run.ret ?_) | (with_reducible show Run _ _ (.cond _ _ _) _ _ _; refine Run.condD rfl (fun h => ?_) (fun h => ?_)) | (with_reducible first | refine seqN (K := Run _ _ _ _) ?_ | refine seqR ?_))
  · refine ⟨eA, _, [], resA, .ch .nil, ?_⟩
    exact ⟨-1, rfl, rfl, by omega, by omega⟩
  · refine ⟨eA, _, [], resA, .ch .nil, ?_⟩
    exact ⟨_, rfl, rfl, by omega, by omega⟩



theorem markIntS_m (u : Value) (x : List Int) (k : Int) (hk : 0 ≤ k) (hx : k + x.length ≤ 4611686018427387904) :
    Spec Try.prog 16 [vlit u, vint k] [hsl tInt u x] (fun r S' => ∃ y : List Int, r = vint (k + x.length) ∧ S' = [hsl tInt u y] ∧ y.length = x.length) :=
  (markIntS_c u x k hk hx).mono fun r S' ⟨h1, h2⟩ => ⟨_, h1, h2, mkI_length _ _⟩

set_option maxRecDepth 10000 in
theorem szIntSS_c (x : List (List Int)) (left : Int) (h0 : 0 ≤ left) (h1 : left ≤ 1048576) (hg : x.length ≤ 9223372036854775807 ∧ ∀ y0 ∈ x, y0.length ≤ 9223372036854775807 ∧ ∀ y1 ∈ y0, InR y1) :
    Spec Try.prog 5 [vsl 1 (fun t : List Int => [vsl 1 (fun x : Int => [vint x]) t]) x, vint left] [] (fun r S' => ∃ q : Int, r = vint q ∧ S' = [] ∧ q ≤ 1048576 ∧ (0 ≤ q → q + ((x.length + sm (List.map (fun y : List Int => y.length) x) : Nat) : Int) = left)) := by
  refine Spec.of_run2 (n := 27) Try.func5 rfl Try.results5 Try.ntmps5 rfl ?_
  have hl := hg.1
  repeat' (first | (with_reducible refine RL.done ?_) | (with_reducible refine RL.wanted ?_ ?_; exact rfl) | ((with_reducible show RH _ _ _ _ _ _ _ _); refine RH.val (hK := ?_)) | (with_reducible first | refine Run.seq ?_ | refine Run.region ?_ | refine Run.block ?_ | refine Run.skip ?_ | refine Run.ret ?_) | (with_reducible show Run _ _ (.cond _ _ _) _ _ _; refine Run.condD rfl (fun h => ?_) (fun h => ?_)) | (with_reducible first | refine seqN (K := Run _ _ _ _) ?_ | refine seqR ?_))
  · refine ⟨eA, _, [], resA, .ch .nil, ?_⟩
    exact ⟨-1, rfl, rfl, by omega, by omega⟩
  · refine Run.loop (α := Nat × Int) (fun z => [(0, vsl 1 (fun t : List Int => [vsl 1 (fun x : Int => [vint x]) t]) x), (1, vint z.2), (5, vint (z.1 : Int))]) (fun _ => []) (fun z => z.1 ≤ x.length ∧ 0 ≤ z.2 ∧ z.2 + (x.length : Int) + (sm ((List.map (fun y : List Int => y.length) x).take z.1) : Int) = left) (fun z => x.length - z.1) (0, left - x.length) (by simp [sm]; omega) (Ent.of slA .refl) ?_
    rintro ⟨j, q⟩ ⟨hj, hq, hs⟩
    dsimp only at hj hq hs ⊢
    repeat' (first | (with_reducible first | refine RL.done ?_ | refine RL.app0 ?_) | (with_reducible refine RL.wanted ?_ ?_; exact rfl) | ((with_reducible show RH _ _ _ ⟨_, .call ⟨.value (.func 19), _, _⟩, _, _, _, _⟩ _ _ _ _); refine RH.cP Try.call19 ?_; refine ⟨_, szIntS_c _ _ (by omega) (by omega) (hg.2 _ (List.getElem_mem _)), ?_⟩; rintro _ _ ⟨q1, rfl, rfl, hq1, hp1⟩) | ((with_reducible show RH _ _ _ _ _ _ _ _); refine RH.val (hK := ?_)) | (with_reducible first | refine Run.seq ?_ | refine Run.region ?_ | refine Run.block ?_ | refine Run.skip ?_ | refine Run.exit ?_ | refine Run.ret ?_) | (with_reducible show Run _ _ (.cond _ _ _) _ _ _; refine Run.condD rfl (fun h => ?_) (fun h => ?_)) | (with_reducible first | refine seqN (K := Run _ _ _ _) ?_ | refine seqE ?_ | refine seqR ?_ | refine blockN ?_ | refine blockR ?_ | refine blockE ?_))
    · refine ⟨eA, _, [], resA, .ch .nil, ?_⟩
      exact ⟨-1, rfl, rfl, by omega, by omega⟩
    · with_reducible refine seqN ?_
      have ht : sm ((List.map (fun y : List Int => y.length) x).take (j + 1)) = sm ((List.map (fun y : List Int => y.length) x).take j) + (x[j].length) := sm_take _ x j (by omega)
      exact ⟨(j + 1, q1), ⟨by (try dsimp only); omega, by (try dsimp only); omega, by (try dsimp only); omega⟩, by (try dsimp only); omega, Ent.of slA .refl⟩
    · obtain rfl : j = x.length := by omega
      rw [List.take_of_length_le (by simp)] at hs
      refine ⟨eA, _, [], resA, .ch .nil, ?_⟩
      exact ⟨q, rfl, rfl, by omega, by omega⟩

set_option maxRecDepth 10000 in
theorem toIntSS_c (x : List (List Int)) (hx : x.length + sm (List.map (fun y : List Int => y.length) x) ≤ 1048576) :
    Spec Try.prog 8 [vsl 1 (fun t : List Int => [vsl 1 (fun x : Int => [vint x]) t]) x] [] (fun r S' => ∃ s : Sv, r = vlit (vsv s) ∧ S' = [hsl (tS tInt) (vsv s) x]) := by
  refine Spec.of_run2 (n := 23) Try.func8 rfl Try.results8 Try.ntmps8 rfl ?_
  repeat' (first | (with_reducible refine RL.done ?_) | (with_reducible refine RL.wanted ?_ ?_; exact rfl) | ((with_reducible show RH _ _ _ ⟨some 7, .makeSlice _ _ _, _, _, _, _⟩ _ _ _ _); refine RH.make (α := List Value) rfl (List.map vlit) [.slice none 0 0] (fun c => .cons rfl .nil) rfl rfl (by omega) (by omega) (by omega) ?_; rintro _ _ ⟨b7, rfl, rfl⟩) | ((with_reducible show RH _ _ _ _ _ _ _ _); refine RH.val (hK := ?_)) | (with_reducible first | refine Run.seq ?_ | refine Run.region ?_ | refine Run.block ?_) | (with_reducible refine seqN (K := Run _ _ _ _) ?_))
  refine Run.sent (SEnt.packRep (tS tInt) (z := []) (us := [.slice none 0 0]) (fun _ => ⟨.slice none 0 0, rfl, .inl ⟨rfl, rfl, rfl⟩⟩) rfl rfl (Nat.le_refl _)) ?_
  refine Run.loop (α := Nat) (fun j => [(0, vsl 1 (fun t : List Int => [vsl 1 (fun x : Int => [vint x]) t]) x), (3, vlit (vsv (some ⟨b7, 0, none⟩, x.length, x.length))), (4, vint (j : Int))]) (fun j => [hsl (tS tInt) (vsv (some ⟨b7, 0, none⟩, x.length, x.length)) (x.take j ++ List.replicate (x.length - j) [])]) (fun j => j ≤ x.length) (fun j => x.length - j) 0 (by simp) (Ent.of slA (.cons .head (by simp) .nil)) ?_
  intro j hj
  have hl : (x.take j ++ List.replicate (x.length - j) []).length = x.length := by simp; omega
  rcases Nat.lt_or_eq_of_le hj with h9 | rfl
  · have hs : x[j].length ≤ sm (List.map (fun y : List Int => y.length) x) := sm_mem (fun y : List Int => y.length) x _ (List.getElem_mem h9)
    repeat' (first | (with_reducible first | refine RL.done ?_ | refine RL.app1 ?_) | (with_reducible refine RL.wanted ?_ ?_; exact rfl) | ((with_reducible show RH _ _ _ ⟨_, .call ⟨.value (.func 9), _, _⟩, _, _, _, _⟩ _ _ _ _); refine RH.cP Try.call9 ?_; refine ⟨_, toIntS_c (x[j]) (by omega), ?_⟩; rintro _ _ ⟨s, rfl, rfl⟩) | ((with_reducible show RH _ _ _ _ _ _ _ _); first | refine RH.val (hK := ?_) | refine RH.upd (hK := ?_)) | (with_reducible first | refine Run.seq ?_ | refine Run.region ?_ | refine Run.block ?_ | refine Run.skip ?_ | refine Run.exit ?_ | refine Run.ret ?_) | (with_reducible show Run _ _ (.cond _ _ _) _ _ _; refine Run.condD rfl (fun h => ?_) (fun h => ?_)) | (with_reducible first | refine seqN (K := Run _ _ _ _) ?_ | refine seqE ?_ | refine blockN ?_ | refine blockE ?_))
    · with_reducible refine seqN ?_
      exact ⟨j + 1, by omega, by omega, Ent.of slA (.cons .head (congrArg (hsl (tS tInt) (vsv (some ⟨b7, 0, none⟩, x.length, x.length))) (cp_set x [] j h9)) .nil)⟩
    · omega
  · repeat' (first | (with_reducible refine RL.done ?_) | (with_reducible refine RL.wanted ?_ ?_; exact rfl) | ((with_reducible show RH _ _ _ _ _ _ _ _); refine RH.val (hK := ?_)) | (with_reducible first | refine Run.seq ?_ | refine Run.region ?_ | refine Run.block ?_ | refine Run.skip ?_ | refine Run.exit ?_ | refine Run.ret ?_) | (with_reducible show Run _ _ (.cond _ _ _) _ _ _; refine Run.condD rfl (fun h => ?_) (fun h => ?_)) | (with_reducible first | refine seqN (K := Run _ _ _ _) ?_ | refine seqE ?_ | refine blockE ?_))
    · omega
    · refine ⟨eA, _, [hsl (tS tInt) (vsv (some ⟨b7, 0, none⟩, x.length, x.length)) x], resA, ?_, ?_⟩
      · exact SEnt.ch (.cons .head (by simp) .nil)
      · exact ⟨(some ⟨b7, 0, none⟩, x.length, x.length), rfl, rfl⟩

set_option maxRecDepth 10000 in
theorem eqIntSS_g (x y : List (List Int)) (hx : x.length + sm (List.map (fun y : List Int => y.length) x) ≤ 4611686018427387904) :
    Spec Try.prog 13 [vsl 1 (fun t : List Int => [vsl 1 (fun x : Int => [vint x]) t]) x, vsl 1 (fun t : List Int => [vsl 1 (fun x : Int => [vint x]) t]) y] [] (fun r S' => r = vbool (decide (x = y)) ∧ S' = []) := by
  refine Spec.of_run2 (n := 27) Try.func13 rfl Try.results13 Try.ntmps13 rfl ?_
  repeat' (first | (with_reducible refine RL.done ?_) | (with_reducible refine RL.wanted ?_ ?_; exact rfl) | ((with_reducible show RH _ _ _ _ _ _ _ _); refine RH.val (hK := ?_)) | (with_reducible first | refine Run.seq ?_ | refine Run.region ?_ | refine Run.block ?_ | refine Run.skip ?_ | refine Run.ret ?_) | (with_reducible show Run _ _ (.cond _ _ _) _ _ _; refine Run.condD rfl (fun h => ?_) (fun h => ?_)) | (with_reducible first | refine seqN (K := Run _ _ _ _) ?_ | refine seqR ?_))
  · refine ⟨eA, _, [], resA, .ch .nil, ?_⟩
    exact ⟨congrArg vbool (decide_eq_false (fun e => by subst e; omega)).symm, rfl⟩
  · refine Run.loop (α := Nat) (fun j => [(0, vsl 1 (fun t : List Int => [vsl 1 (fun x : Int => [vint x]) t]) x), (1, vsl 1 (fun t : List Int => [vsl 1 (fun x : Int => [vint x]) t]) y), (5, vint (j : Int))]) (fun _ => []) (fun j => j ≤ x.length ∧ x.take j = y.take j) (fun j => x.length - j) 0 (by simp) (Ent.of slA .refl) ?_
    rintro j ⟨hj, ht⟩
    rcases Nat.lt_or_eq_of_le hj with h9 | rfl
    · have hs : x[j].length ≤ sm (List.map (fun y : List Int => y.length) x) := sm_mem (fun y : List Int => y.length) x _ (List.getElem_mem h9)
      repeat' (first | (with_reducible first | refine RL.done ?_ | refine RD.app0 ?_) | (with_reducible refine RL.wanted ?_ ?_; exact rfl) | ((with_reducible show Run _ _ (.region 6 _ true) _ _ _); refine Run.regionD (fun i => false) rfl ?_; change RD _ _ _ _ _ _ 10 (dm 10 0) _ _) | ((with_reducible show RD _ _ 6 _ _ _ _ _ _ _); first | ((with_reducible show RD _ _ _ _ _ _ _ (dm 10 0) _ _); refine RD.tk 0 (dm 10 780) (dm 10 1) (hK := ?_)) | ((with_reducible show RD _ _ _ _ _ _ _ (dm 10 1) _ _); refine RD.tk 1 (dm 10 780) (dm 10 3) (hK := ?_)) | ((with_reducible show RD _ _ _ _ _ _ _ (dm 10 3) _ _); refine RD.tk 2 (dm 10 776) (dm 10 7) (hK := ?_)) | ((with_reducible show RD _ _ _ _ _ _ _ (dm 10 7) _ _); refine RD.tk 3 (dm 10 768) (dm 10 15) (hK := ?_)) | ((with_reducible show RD _ _ _ _ _ _ _ (dm 10 15) _ _); refine RD.tk 4 (dm 10 960) (dm 10 31) (hK := ?_)) | ((with_reducible show RD _ _ _ _ _ _ _ (dm 10 31) _ _); refine RD.tk 5 (dm 10 960) (dm 10 63) (hK := ?_)) | ((with_reducible show RD _ _ _ _ _ _ _ (dm 10 63) _ _); refine RD.tk 6 (dm 10 896) (dm 10 127) (hK := ?_)) | ((with_reducible show RD _ _ _ _ _ _ _ (dm 10 127) _ _); refine RD.tk 7 (dm 10 768) (dm 10 255) (hK := ?_)) | ((with_reducible show RD _ _ _ _ _ _ _ (dm 10 255) _ _); refine RD.a1 8 ?_) | ((with_reducible show RD _ _ _ _ _ _ _ (dm 10 511) _ _); refine RD.tk 9 (dm 10 0) (dm 10 1023) (hK := ?_)) | ((with_reducible show RD _ _ _ _ _ _ 0 _ _ _); refine RD.done (by kernel_rfl) ?_)) | ((with_reducible show RO _ _ 6 _ _ _ _ _ _ _ _); ((with_reducible show RO _ _ _ _ _ _ _ (dm 10 255) 8 _ _); (refine RO.cP (dm 10 511) Try.call11 ?_; refine ⟨_, eqIntS_c _ _ (by omega), ?_⟩; rintro _ _ ⟨rfl, rfl⟩))) | ((with_reducible show RH _ _ _ _ _ _ _ _); refine RH.val (hK := ?_)) | (with_reducible first | refine Run.seq ?_ | refine Run.region ?_ | refine Run.block ?_ | refine Run.skip ?_ | refine Run.exit ?_ | refine Run.ret ?_) | (with_reducible show Run _ _ (.cond _ _ _) _ _ _; first | refine Run.condD rfl (fun h => ?_) (fun h => ?_) | refine Run.condND rfl (fun h => ?_) (fun h => ?_)) | (with_reducible first | refine seqN (K := Run _ _ _ _) ?_ | refine seqE ?_ | refine seqR ?_ | refine blockN ?_ | refine blockR ?_ | refine blockE ?_))
      · refine ⟨eA, _, [], resA, .ch .nil, ?_⟩
        exact ⟨congrArg vbool (decide_eq_false (fun e => by subst e; simp_all)).symm, rfl⟩
      · with_reducible refine seqN ?_
        exact ⟨j + 1, ⟨by omega, take_succ_eq (by omega) (by omega) ht (by simp_all)⟩, by omega, Ent.of slA .refl⟩
      · omega
    · repeat' (first | (with_reducible refine RL.done ?_) | (with_reducible refine RL.wanted ?_ ?_; exact rfl) | ((with_reducible show Run _ _ (.region 6 _ true) _ _ _); refine Run.regionD (fun i => false) rfl ?_; change RD _ _ _ _ _ _ 10 (dm 10 0) _ _) | ((with_reducible show RD _ _ 6 _ _ _ _ _ _ _); first | ((with_reducible show RD _ _ _ _ _ _ _ (dm 10 0) _ _); refine RD.tk 0 (dm 10 780) (dm 10 1) (hK := ?_)) | ((with_reducible show RD _ _ _ _ _ _ _ (dm 10 1) _ _); refine RD.tk 1 (dm 10 780) (dm 10 3) (hK := ?_)) | ((with_reducible show RD _ _ _ _ _ _ _ (dm 10 3) _ _); refine RD.tk 2 (dm 10 776) (dm 10 7) (hK := ?_)) | ((with_reducible show RD _ _ _ _ _ _ _ (dm 10 7) _ _); refine RD.tk 3 (dm 10 768) (dm 10 15) (hK := ?_)) | ((with_reducible show RD _ _ _ _ _ _ _ (dm 10 15) _ _); refine RD.tk 4 (dm 10 960) (dm 10 31) (hK := ?_)) | ((with_reducible show RD _ _ _ _ _ _ _ (dm 10 31) _ _); refine RD.tk 5 (dm 10 960) (dm 10 63) (hK := ?_)) | ((with_reducible show RD _ _ _ _ _ _ _ (dm 10 63) _ _); refine RD.tk 6 (dm 10 896) (dm 10 127) (hK := ?_)) | ((with_reducible show RD _ _ _ _ _ _ _ (dm 10 127) _ _); refine RD.tk 7 (dm 10 768) (dm 10 255) (hK := ?_)) | ((with_reducible show RD _ _ _ _ _ _ _ (dm 10 255) _ _); refine RD.a1 8 ?_)) | ((with_reducible show RH _ _ _ _ _ _ _ _); refine RH.val (hK := ?_)) | (with_reducible first | refine Run.seq ?_ | refine Run.region ?_ | refine Run.block ?_ | refine Run.skip ?_ | refine Run.exit ?_ | refine Run.ret ?_) | (with_reducible show Run _ _ (.cond _ _ _) _ _ _; refine Run.condD rfl (fun h => ?_) (fun h => ?_)) | (with_reducible first | refine seqN (K := Run _ _ _ _) ?_ | refine seqE ?_ | refine blockE ?_))
      · omega
      · refine ⟨eA, _, [], resA, .ch .nil, ?_⟩
        exact ⟨congrArg vbool (decide_eq_true (eq_of_take (by omega) (by omega) ht)).symm, rfl⟩

set_option maxRecDepth 10000 in
theorem markIntSS_m (u : Value) (x : List (List Int)) (k : Int) (hk : 0 ≤ k) (hx : k + ((sm (List.map (fun y : List Int => y.length) x) : Nat) : Int) ≤ 4611686018427387904) (hl : x.length ≤ 4611686018427387904) :
    Spec Try.prog 15 [vlit u, vint k] [hsl (tS tInt) u x] (fun r S' => ∃ y : List (List Int), r = vint (k + ((sm (List.map (fun y : List Int => y.length) x) : Nat) : Int)) ∧ S' = [hsl (tS tInt) u y] ∧ (List.map (fun y : List Int => y.length) y) = (List.map (fun y : List Int => y.length) x)) := by
  refine Spec.of_run2 (n := 19) Try.func15 rfl Try.results15 Try.ntmps15 rfl ?_
  have hl0 := hl
  repeat' (first | (with_reducible refine RL.done ?_) | (with_reducible refine RL.wanted ?_ ?_; exact rfl) | ((with_reducible show RH _ _ _ _ _ _ _ _); refine RH.val (hK := ?_)) | (with_reducible first | refine Run.seq ?_ | refine Run.region ?_ | refine Run.block ?_) | (with_reducible refine seqN (K := Run _ _ _ _) ?_))
  refine Run.loop (α := Nat × (List (List Int))) (fun z => [(0, vlit u), (1, vint (k + (sm ((List.map (fun y : List Int => y.length) x).take z.1) : Int))), (5, vint (z.1 : Int))]) (fun z => [hsl (tS tInt) u z.2]) (fun z => z.1 ≤ x.length ∧ List.map (fun y : List Int => y.length) z.2 = List.map (fun y : List Int => y.length) x) (fun z => x.length - z.1) (0, x) (by simp) (Ent.of (by (repeat (first | exact Sl.nil | refine Sl.cons rfl rfl ?_ | refine Sl.cons rfl (congrArg (fun z => vlit (Value.int .i64 z)) (by omega)) ?_ | refine Sl.cons rfl (by simp [sm]) ?_))) .refl) ?_
  rintro ⟨j, ys⟩ ⟨hj, hm⟩
  dsimp only at hj hm ⊢
  have hly : ys.length = x.length := by simpa using congrArg List.length hm
  have hb := sm_take_le (List.map (fun y : List Int => y.length) x) (j + 1)
  rcases Nat.lt_or_eq_of_le hj with h9 | rfl
  · have hsh : (ys[j]'(by omega)).length = x[j].length := map_at (f := (fun y : List Int => y.length)) hm (by omega) h9
    have hc : (ys[j]'(by omega)).length = x[j].length := by
      first
        | exact hsh
        | (simp only [Prod.mk.injEq] at hsh; omega)
        | (have h7 := congrArg sm hsh; omega)
        | omega
    have hs : sm ((List.map (fun y : List Int => y.length) x).take (j + 1)) = sm ((List.map (fun y : List Int => y.length) x).take j) + (x[j].length) := sm_take _ x j h9
    repeat' (first | (with_reducible refine RL.done ?_) | (with_reducible refine RL.wanted ?_ ?_; exact rfl) | ((with_reducible show RH _ _ _ ⟨_, .load _ (.tmp 14), _, _, _, _⟩ _ _ _ _); with_reducible refine RH.focusRow (t := tInt) j (ys[j]'(by omega)) .head (List.getElem?_eq_getElem (by omega)) ?_; intro u1) | ((with_reducible show RH _ _ _ ⟨_, .call ⟨.value (.func 16), _, _⟩, _, _, _, _⟩ _ _ _ _); refine RH.cW Try.call16 ?_; refine ⟨_, _, _, (by repeat (first | exact Pick.nil | (apply Pick.cons; (with_reducible repeat (first | exact Rem.head | apply Rem.tail))))), markIntS_m _ _ _ (by omega) (by omega), ?_⟩; rintro _ _ ⟨y1, rfl, rfl, hy1⟩; refine RL.nm ?_) | ((with_reducible show RH _ _ _ _ _ _ _ _); refine RH.val (hK := ?_)) | (with_reducible first | refine Run.seq ?_ | refine Run.region ?_ | refine Run.block ?_ | refine Run.skip ?_ | refine Run.exit ?_ | refine Run.ret ?_) | (with_reducible show Run _ _ (.cond _ _ _) _ _ _; refine Run.condD rfl (fun h => ?_) (fun h => ?_)) | (with_reducible first | refine seqN (K := Run _ _ _ _) ?_ | refine seqE ?_ | refine blockN ?_ | refine blockE ?_))
    · with_reducible refine seqN ?_
      refine ⟨(j + 1, ys.set j y1), ⟨by (try dsimp only); omega, ?_⟩, by (try dsimp only); omega, ((SEnt.unfocusRow (by first | omega | (simp only [List.length_set]; omega)))).ent.trans (Ent.of (by (try dsimp only); (repeat (first | exact Sl.nil | refine Sl.cons rfl rfl ?_ | refine Sl.cons rfl (congrArg (fun z => vlit (Value.int .i64 z)) (by omega)) ?_))) .refl)⟩
      dsimp only
      rw [← hm]
      exact map_set_eq (f := (fun y : List Int => y.length)) ys j _ (by omega) (by (try dsimp only); exact hy1)
    · omega
  · repeat' (first | (with_reducible refine RL.done ?_) | (with_reducible refine RL.wanted ?_ ?_; exact rfl) | ((with_reducible show RH _ _ _ _ _ _ _ _); first | refine RH.val (hK := ?_) | (refine RH.lr (h := ?_); intro u)) | (with_reducible first | refine Run.seq ?_ | refine Run.region ?_ | refine Run.block ?_ | refine Run.skip ?_ | refine Run.exit ?_ | refine Run.ret ?_) | (with_reducible show Run _ _ (.cond _ _ _) _ _ _; refine Run.condD rfl (fun h => ?_) (fun h => ?_)) | (with_reducible first | refine seqN (K := Run _ _ _ _) ?_ | refine seqE ?_ | refine blockE ?_))
    · omega
    · refine ⟨eA, _, [hsl (tS tInt) u ys], resA, ?_, ?_⟩
      · exact SEnt.ch (.cons .head rfl .nil)
      · refine ⟨ys, ?_, rfl, hm⟩
        exact congrArg (fun z : Nat => vint (k + (z : Int))) (congrArg sm (List.take_of_length_le (by simp)))

set_option maxRecDepth 10000 in
theorem szOp_c (x : Int × (List Int)) (left : Int) (h0 : 0 ≤ left) (h1 : left ≤ 1048576) (hg : (InR x.1) ∧ (x.2.length ≤ 9223372036854775807 ∧ ∀ y0 ∈ x.2, InR y0)) :
    Spec Try.prog 34 [vagg [vint x.1, vsl 1 (fun x : Int => [vint x]) x.2], vint left] [] (fun r S' => ∃ q : Int, r = vint q ∧ S' = [] ∧ q ≤ 1048576 ∧ (0 ≤ q → q + ((x.2.length : Nat) : Int) = left)) := by
  refine Spec.of_run2 (n := 12) Try.func34 rfl Try.results34 Try.ntmps34 rfl ?_
  repeat' (first | (with_reducible first | refine RL.done ?_ | refine RL.app0 ?_) | (with_reducible refine RL.wanted ?_ ?_; exact rfl) | ((with_reducible show RH _ _ _ ⟨some 2, .box _ _, _, _, _, _⟩ _ _ _ _); (refine RH.boxAgg rfl rfl ?_; rintro _ _ ⟨b2, rfl, rfl⟩)) | ((with_reducible show RH _ _ _ ⟨_, .call ⟨.value (.func 19), _, _⟩, _, _, _, _⟩ _ _ _ _); refine RH.cP Try.call19 ?_; refine ⟨_, szIntS_c (x.2) _ (by omega) (by omega) hg.2, ?_⟩; rintro _ _ ⟨q0, rfl, rfl, hq0, hp0⟩) | ((with_reducible show RH _ _ _ _ _ _ _ _); refine RH.val (hK := ?_)) | (with_reducible first | refine Run.seq ?_ | refine Run.region ?_ | refine Run.skip ?_ | refine Run.ret ?_) | (with_reducible show Run _ _ (.cond _ _ _) _ _ _; refine Run.condD rfl (fun h => ?_) (fun h => ?_)) | (with_reducible first | refine seqN (K := Run _ _ _ _) ?_ | refine seqR ?_))
  all_goals first
    | (refine ⟨eA, _, [], resA, .ch .nil, ?_⟩; exact ⟨-1, rfl, rfl, by omega, by omega⟩)
    | (refine ⟨eA, _, [], resA, .ch .nil, ?_⟩; exact ⟨_, rfl, rfl, by omega, by omega⟩)

set_option maxRecDepth 10000 in
theorem toOp_c (x : Int × (List Int)) (hx : x.2.length ≤ 1048576) :
    Spec Try.prog 48 [vagg [vint x.1, vsl 1 (fun x : Int => [vint x]) x.2]] [] (fun r S' => ∃ s : Sv, r = vagg [vint x.1, vlit (vsv s)] ∧ S' = [hsl tInt (vsv s) x.2]) := by
  refine Spec.of_run2 (n := 12) Try.func48 rfl Try.results48 Try.ntmps48 rfl ?_
  repeat' (first | (with_reducible first | refine RL.done ?_ | refine RL.app1 ?_) | (with_reducible refine RL.wanted ?_ ?_; exact rfl) | ((with_reducible show RH _ _ _ ⟨some 1, .box _ _, _, _, _, _⟩ _ _ _ _); (refine RH.boxAgg rfl rfl ?_; rintro _ _ ⟨b1, rfl, rfl⟩)) | ((with_reducible show RH _ _ _ ⟨some 2, .alloc _, _, _, _, _⟩ _ _ _ _); refine RH.alloc rfl ?_; rintro _ _ ⟨b2, rfl, rfl⟩) | ((with_reducible show RH _ _ _ ⟨some 3, .alloc _, _, _, _, _⟩ _ _ _ _); refine RH.alloc rfl ?_; rintro _ _ ⟨b3, rfl, rfl⟩) | ((with_reducible show RH _ _ _ ⟨_, .call ⟨.value (.func 9), _, _⟩, _, _, _, _⟩ _ _ _ _); refine RH.cP Try.call9 ?_; refine ⟨_, toIntS_c (x.2) (by omega), ?_⟩; rintro _ _ ⟨s, rfl, rfl⟩) | ((with_reducible show RH _ _ _ _ _ _ _ _); first | refine RH.val (hK := ?_) | refine RH.upd (hK := ?_)) | (with_reducible first | refine Run.seq ?_ | refine Run.region ?_ | refine Run.ret ?_) | (with_reducible refine seqN (K := Run _ _ _ _) ?_))
  refine ⟨eA, _, [hsl tInt (vsv s) x.2], resA, ?_, ?_⟩
  · exact SEnt.ch (by repeat (first | exact .nil | refine .cons (by with_reducible repeat (first | exact Rem.head | apply Rem.tail)) rfl ?_))
  · exact ⟨s, rfl, rfl⟩

set_option maxRecDepth 10000 in
theorem eqOp_g (x y : Int × (List Int)) (hx : x.2.length ≤ 4611686018427387904) :
    Spec Try.prog 58 [vagg [vint x.1, vsl 1 (fun x : Int => [vint x]) x.2], vagg [vint y.1, vsl 1 (fun x : Int => [vint x]) y.2]] [] (fun r S' => r = vbool (decide (x = y)) ∧ S' = []) := by
  obtain ⟨x1, x2⟩ := x
  obtain ⟨y1, y2⟩ := y
  dsimp only at hx ⊢
  refine Spec.of_run2 (n := 16) Try.func58 rfl Try.results58 Try.ntmps58 rfl ?_
  repeat' (first | (with_reducible first | refine RL.done ?_ | refine RL.app0 ?_) | (with_reducible refine RL.wanted ?_ ?_; exact rfl) | ((with_reducible show RH _ _ _ ⟨some 2, .box _ _, _, _, _, _⟩ _ _ _ _); (refine RH.boxAgg rfl rfl ?_; rintro _ _ ⟨b2, rfl, rfl⟩)) | ((with_reducible show RH _ _ _ ⟨some 3, .box _ _, _, _, _, _⟩ _ _ _ _); (refine RH.boxAgg rfl rfl ?_; rintro _ _ ⟨b3, rfl, rfl⟩)) | ((with_reducible show RH _ _ _ ⟨_, .call ⟨.value (.func 11), _, _⟩, _, _, _, _⟩ _ _ _ _); refine RH.cP Try.call11 ?_; refine ⟨_, eqIntS_c _ _ (by omega), ?_⟩; rintro _ _ ⟨rfl, rfl⟩) | ((with_reducible show RH _ _ _ _ _ _ _ _); refine RH.val (hK := ?_)) | (with_reducible first | refine Run.seq ?_ | refine Run.region ?_ | refine Run.skip ?_ | refine Run.ret ?_) | (with_reducible show Run _ _ (.cond _ _ _) _ _ _; first | refine Run.condD rfl (fun h => ?_) (fun h => ?_) | refine Run.condND rfl (fun h => ?_) (fun h => ?_)) | (with_reducible first | refine seqN (K := Run _ _ _ _) ?_ | refine seqR ?_))
  all_goals (refine ⟨eA, _, [], resA, .ch .nil, ?_⟩; exact ⟨congrArg vbool (by simp_all), rfl⟩)

set_option maxRecDepth 10000 in
theorem szOpS_c (x : List (Int × (List Int))) (left : Int) (h0 : 0 ≤ left) (h1 : left ≤ 1048576) (hg : x.length ≤ 9223372036854775807 ∧ ∀ y0 ∈ x, (InR y0.1) ∧ (y0.2.length ≤ 9223372036854775807 ∧ ∀ y1 ∈ y0.2, InR y1)) :
    Spec Try.prog 18 [vsl 2 (fun y : Int × (List Int) => [vint y.1, vsl 1 (fun x : Int => [vint x]) y.2]) x, vint left] [] (fun r S' => ∃ q : Int, r = vint q ∧ S' = [] ∧ q ≤ 1048576 ∧ (0 ≤ q → q + ((x.length + sm (List.map (fun y : Int × (List Int) => y.2.length) x) : Nat) : Int) = left)) := by
  refine Spec.of_run2 (n := 27) Try.func18 rfl Try.results18 Try.ntmps18 rfl ?_
  have hl := hg.1
  repeat' (first | (with_reducible refine RL.done ?_) | (with_reducible refine RL.wanted ?_ ?_; exact rfl) | ((with_reducible show RH _ _ _ _ _ _ _ _); refine RH.val (hK := ?_)) | (with_reducible first | refine Run.seq ?_ | refine Run.region ?_ | refine Run.block ?_ | refine Run.skip ?_ | refine Run.ret ?_) | (with_reducible show Run _ _ (.cond _ _ _) _ _ _; refine Run.condD rfl (fun h => ?_) (fun h => ?_)) | (with_reducible first | refine seqN (K := Run _ _ _ _) ?_ | refine seqR ?_))
  · refine ⟨eA, _, [], resA, .ch .nil, ?_⟩
    exact ⟨-1, rfl, rfl, by omega, by omega⟩
  · refine Run.loop (α := Nat × Int) (fun z => [(0, vsl 2 (fun y : Int × (List Int) => [vint y.1, vsl 1 (fun x : Int => [vint x]) y.2]) x), (1, vint z.2), (5, vint (z.1 : Int))]) (fun _ => []) (fun z => z.1 ≤ x.length ∧ 0 ≤ z.2 ∧ z.2 + (x.length : Int) + (sm ((List.map (fun y : Int × (List Int) => y.2.length) x).take z.1) : Int) = left) (fun z => x.length - z.1) (0, left - x.length) (by simp [sm]; omega) (Ent.of slA .refl) ?_
    rintro ⟨j, q⟩ ⟨hj, hq, hs⟩
    dsimp only at hj hq hs ⊢
    repeat' (first | (with_reducible first | refine RL.done ?_ | refine RL.app0 ?_) | (with_reducible refine RL.wanted ?_ ?_; exact rfl) | ((with_reducible show RH _ _ _ ⟨_, .call ⟨.value (.func 34), _, _⟩, _, _, _, _⟩ _ _ _ _); refine RH.cP Try.call34 ?_; refine ⟨_, szOp_c _ _ (by omega) (by omega) (hg.2 _ (List.getElem_mem _)), ?_⟩; rintro _ _ ⟨q1, rfl, rfl, hq1, hp1⟩) | ((with_reducible show RH _ _ _ _ _ _ _ _); refine RH.val (hK := ?_)) | (with_reducible first | refine Run.seq ?_ | refine Run.region ?_ | refine Run.block ?_ | refine Run.skip ?_ | refine Run.exit ?_ | refine Run.ret ?_) | (with_reducible show Run _ _ (.cond _ _ _) _ _ _; refine Run.condD rfl (fun h => ?_) (fun h => ?_)) | (with_reducible first | refine seqN (K := Run _ _ _ _) ?_ | refine seqE ?_ | refine seqR ?_ | refine blockN ?_ | refine blockR ?_ | refine blockE ?_))
    · refine ⟨eA, _, [], resA, .ch .nil, ?_⟩
      exact ⟨-1, rfl, rfl, by omega, by omega⟩
    · with_reducible refine seqN ?_
      have ht : sm ((List.map (fun y : Int × (List Int) => y.2.length) x).take (j + 1)) = sm ((List.map (fun y : Int × (List Int) => y.2.length) x).take j) + (x[j].2.length) := sm_take _ x j (by omega)
      exact ⟨(j + 1, q1), ⟨by (try dsimp only); omega, by (try dsimp only); omega, by (try dsimp only); omega⟩, by (try dsimp only); omega, Ent.of slA .refl⟩
    · obtain rfl : j = x.length := by omega
      rw [List.take_of_length_le (by simp)] at hs
      refine ⟨eA, _, [], resA, .ch .nil, ?_⟩
      exact ⟨q, rfl, rfl, by omega, by omega⟩

set_option maxRecDepth 10000 in
theorem toOpS_c (x : List (Int × (List Int))) (hx : x.length + sm (List.map (fun y : Int × (List Int) => y.2.length) x) ≤ 1048576) :
    Spec Try.prog 26 [vsl 2 (fun y : Int × (List Int) => [vint y.1, vsl 1 (fun x : Int => [vint x]) y.2]) x] [] (fun r S' => ∃ s : Sv, r = vlit (vsv s) ∧ S' = [hsl (tPair tInt (tS tInt)) (vsv s) x]) := by
  refine Spec.of_run2 (n := 23) Try.func26 rfl Try.results26 Try.ntmps26 rfl ?_
  repeat' (first | (with_reducible refine RL.done ?_) | (with_reducible refine RL.wanted ?_ ?_; exact rfl) | ((with_reducible show RH _ _ _ ⟨some 7, .makeSlice _ _ _, _, _, _, _⟩ _ _ _ _); refine RH.make (α := List Value) rfl (List.map vlit) [.int .i64 0, .slice none 0 0] (fun c => .cons rfl (.cons rfl (.nil))) rfl rfl (by omega) (by omega) (by omega) ?_; rintro _ _ ⟨b7, rfl, rfl⟩) | ((with_reducible show RH _ _ _ _ _ _ _ _); refine RH.val (hK := ?_)) | (with_reducible first | refine Run.seq ?_ | refine Run.region ?_ | refine Run.block ?_) | (with_reducible refine seqN (K := Run _ _ _ _) ?_))
  refine Run.sent (SEnt.packRep (tPair tInt (tS tInt)) (z := (0, [])) (us := [.int .i64 0, .slice none 0 0]) (fun _ => ⟨[.int .i64 0], [.slice none 0 0], [], [], rfl, rfl, ⟨rfl, rfl⟩, .slice none 0 0, rfl, .inl ⟨rfl, rfl, rfl⟩⟩) rfl rfl (Nat.le_refl _)) ?_
  refine Run.loop (α := Nat) (fun j => [(0, vsl 2 (fun y : Int × (List Int) => [vint y.1, vsl 1 (fun x : Int => [vint x]) y.2]) x), (3, vlit (vsv (some ⟨b7, 0, none⟩, x.length, x.length))), (4, vint (j : Int))]) (fun j => [hsl (tPair tInt (tS tInt)) (vsv (some ⟨b7, 0, none⟩, x.length, x.length)) (x.take j ++ List.replicate (x.length - j) (0, []))]) (fun j => j ≤ x.length) (fun j => x.length - j) 0 (by simp) (Ent.of slA (.cons .head (by simp) .nil)) ?_
  intro j hj
  have hl : (x.take j ++ List.replicate (x.length - j) (0, [])).length = x.length := by simp; omega
  rcases Nat.lt_or_eq_of_le hj with h9 | rfl
  · have hs : x[j].2.length ≤ sm (List.map (fun y : Int × (List Int) => y.2.length) x) := sm_mem (fun y : Int × (List Int) => y.2.length) x _ (List.getElem_mem h9)
    repeat' (first | (with_reducible first | refine RL.done ?_ | refine RL.app1 ?_) | (with_reducible refine RL.wanted ?_ ?_; exact rfl) | ((with_reducible show RH _ _ _ ⟨_, .call ⟨.value (.func 48), _, _⟩, _, _, _, _⟩ _ _ _ _); refine RH.cP Try.call48 ?_; refine ⟨_, toOp_c (x[j]) (by omega), ?_⟩; rintro _ _ ⟨s, rfl, rfl⟩) | ((with_reducible show RH _ _ _ _ _ _ _ _); first | refine RH.val (hK := ?_) | refine RH.upd (hK := ?_)) | (with_reducible first | refine Run.seq ?_ | refine Run.region ?_ | refine Run.block ?_ | refine Run.skip ?_ | refine Run.exit ?_ | refine Run.ret ?_) | (with_reducible show Run _ _ (.cond _ _ _) _ _ _; refine Run.condD rfl (fun h => ?_) (fun h => ?_)) | (with_reducible first | refine seqN (K := Run _ _ _ _) ?_ | refine seqE ?_ | refine blockN ?_ | refine blockE ?_))
    · with_reducible refine seqN ?_
      exact ⟨j + 1, by omega, by omega, Ent.of slA (.cons .head (congrArg (hsl (tPair tInt (tS tInt)) (vsv (some ⟨b7, 0, none⟩, x.length, x.length))) (cp_set x (0, []) j h9)) .nil)⟩
    · omega
  · repeat' (first | (with_reducible refine RL.done ?_) | (with_reducible refine RL.wanted ?_ ?_; exact rfl) | ((with_reducible show RH _ _ _ _ _ _ _ _); refine RH.val (hK := ?_)) | (with_reducible first | refine Run.seq ?_ | refine Run.region ?_ | refine Run.block ?_ | refine Run.skip ?_ | refine Run.exit ?_ | refine Run.ret ?_) | (with_reducible show Run _ _ (.cond _ _ _) _ _ _; refine Run.condD rfl (fun h => ?_) (fun h => ?_)) | (with_reducible first | refine seqN (K := Run _ _ _ _) ?_ | refine seqE ?_ | refine blockE ?_))
    · omega
    · refine ⟨eA, _, [hsl (tPair tInt (tS tInt)) (vsv (some ⟨b7, 0, none⟩, x.length, x.length)) x], resA, ?_, ?_⟩
      · exact SEnt.ch (.cons .head (by simp) .nil)
      · exact ⟨(some ⟨b7, 0, none⟩, x.length, x.length), rfl, rfl⟩

set_option maxRecDepth 10000 in
theorem eqOpS_g (x y : List (Int × (List Int))) (hx : x.length + sm (List.map (fun y : Int × (List Int) => y.2.length) x) ≤ 4611686018427387904) :
    Spec Try.prog 32 [vsl 2 (fun y : Int × (List Int) => [vint y.1, vsl 1 (fun x : Int => [vint x]) y.2]) x, vsl 2 (fun y : Int × (List Int) => [vint y.1, vsl 1 (fun x : Int => [vint x]) y.2]) y] [] (fun r S' => r = vbool (decide (x = y)) ∧ S' = []) := by
  refine Spec.of_run2 (n := 27) Try.func32 rfl Try.results32 Try.ntmps32 rfl ?_
  repeat' (first | (with_reducible refine RL.done ?_) | (with_reducible refine RL.wanted ?_ ?_; exact rfl) | ((with_reducible show RH _ _ _ _ _ _ _ _); refine RH.val (hK := ?_)) | (with_reducible first | refine Run.seq ?_ | refine Run.region ?_ | refine Run.block ?_ | refine Run.skip ?_ | refine Run.ret ?_) | (with_reducible show Run _ _ (.cond _ _ _) _ _ _; refine Run.condD rfl (fun h => ?_) (fun h => ?_)) | (with_reducible first | refine seqN (K := Run _ _ _ _) ?_ | refine seqR ?_))
  · refine ⟨eA, _, [], resA, .ch .nil, ?_⟩
    exact ⟨congrArg vbool (decide_eq_false (fun e => by subst e; omega)).symm, rfl⟩
  · refine Run.loop (α := Nat) (fun j => [(0, vsl 2 (fun y : Int × (List Int) => [vint y.1, vsl 1 (fun x : Int => [vint x]) y.2]) x), (1, vsl 2 (fun y : Int × (List Int) => [vint y.1, vsl 1 (fun x : Int => [vint x]) y.2]) y), (5, vint (j : Int))]) (fun _ => []) (fun j => j ≤ x.length ∧ x.take j = y.take j) (fun j => x.length - j) 0 (by simp) (Ent.of slA .refl) ?_
    rintro j ⟨hj, ht⟩
    rcases Nat.lt_or_eq_of_le hj with h9 | rfl
    · have hs : x[j].2.length ≤ sm (List.map (fun y : Int × (List Int) => y.2.length) x) := sm_mem (fun y : Int × (List Int) => y.2.length) x _ (List.getElem_mem h9)
      repeat' (first | (with_reducible first | refine RL.done ?_ | refine RD.app0 ?_) | (with_reducible refine RL.wanted ?_ ?_; exact rfl) | ((with_reducible show Run _ _ (.region 6 _ true) _ _ _); refine Run.regionD (fun i => false) rfl ?_; change RD _ _ _ _ _ _ 10 (dm 10 0) _ _) | ((with_reducible show RD _ _ 6 _ _ _ _ _ _ _); first | ((with_reducible show RD _ _ _ _ _ _ _ (dm 10 0) _ _); refine RD.tk 0 (dm 10 780) (dm 10 1) (hK := ?_)) | ((with_reducible show RD _ _ _ _ _ _ _ (dm 10 1) _ _); refine RD.tk 1 (dm 10 780) (dm 10 3) (hK := ?_)) | ((with_reducible show RD _ _ _ _ _ _ _ (dm 10 3) _ _); refine RD.tk 2 (dm 10 776) (dm 10 7) (hK := ?_)) | ((with_reducible show RD _ _ _ _ _ _ _ (dm 10 7) _ _); refine RD.tk 3 (dm 10 768) (dm 10 15) (hK := ?_)) | ((with_reducible show RD _ _ _ _ _ _ _ (dm 10 15) _ _); refine RD.tk 4 (dm 10 960) (dm 10 31) (hK := ?_)) | ((with_reducible show RD _ _ _ _ _ _ _ (dm 10 31) _ _); refine RD.tk 5 (dm 10 960) (dm 10 63) (hK := ?_)) | ((with_reducible show RD _ _ _ _ _ _ _ (dm 10 63) _ _); refine RD.tk 6 (dm 10 896) (dm 10 127) (hK := ?_)) | ((with_reducible show RD _ _ _ _ _ _ _ (dm 10 127) _ _); refine RD.tk 7 (dm 10 768) (dm 10 255) (hK := ?_)) | ((with_reducible show RD _ _ _ _ _ _ _ (dm 10 255) _ _); refine RD.a1 8 ?_) | ((with_reducible show RD _ _ _ _ _ _ _ (dm 10 511) _ _); refine RD.tk 9 (dm 10 0) (dm 10 1023) (hK := ?_)) | ((with_reducible show RD _ _ _ _ _ _ 0 _ _ _); refine RD.done (by kernel_rfl) ?_)) | ((with_reducible show RO _ _ 6 _ _ _ _ _ _ _ _); ((with_reducible show RO _ _ _ _ _ _ _ (dm 10 255) 8 _ _); (refine RO.cP (dm 10 511) Try.call58 ?_; refine ⟨_, eqOp_g _ _ (by omega), ?_⟩; rintro _ _ ⟨rfl, rfl⟩))) | ((with_reducible show RH _ _ _ _ _ _ _ _); refine RH.val (hK := ?_)) | (with_reducible first | refine Run.seq ?_ | refine Run.region ?_ | refine Run.block ?_ | refine Run.skip ?_ | refine Run.exit ?_ | refine Run.ret ?_) | (with_reducible show Run _ _ (.cond _ _ _) _ _ _; first | refine Run.condD rfl (fun h => ?_) (fun h => ?_) | refine Run.condND rfl (fun h => ?_) (fun h => ?_)) | (with_reducible first | refine seqN (K := Run _ _ _ _) ?_ | refine seqE ?_ | refine seqR ?_ | refine blockN ?_ | refine blockR ?_ | refine blockE ?_))
      · refine ⟨eA, _, [], resA, .ch .nil, ?_⟩
        exact ⟨congrArg vbool (decide_eq_false (fun e => by subst e; simp_all)).symm, rfl⟩
      · with_reducible refine seqN ?_
        exact ⟨j + 1, ⟨by omega, take_succ_eq (by omega) (by omega) ht (by simp_all)⟩, by omega, Ent.of slA .refl⟩
      · omega
    · repeat' (first | (with_reducible refine RL.done ?_) | (with_reducible refine RL.wanted ?_ ?_; exact rfl) | ((with_reducible show Run _ _ (.region 6 _ true) _ _ _); refine Run.regionD (fun i => false) rfl ?_; change RD _ _ _ _ _ _ 10 (dm 10 0) _ _) | ((with_reducible show RD _ _ 6 _ _ _ _ _ _ _); first | ((with_reducible show RD _ _ _ _ _ _ _ (dm 10 0) _ _); refine RD.tk 0 (dm 10 780) (dm 10 1) (hK := ?_)) | ((with_reducible show RD _ _ _ _ _ _ _ (dm 10 1) _ _); refine RD.tk 1 (dm 10 780) (dm 10 3) (hK := ?_)) | ((with_reducible show RD _ _ _ _ _ _ _ (dm 10 3) _ _); refine RD.tk 2 (dm 10 776) (dm 10 7) (hK := ?_)) | ((with_reducible show RD _ _ _ _ _ _ _ (dm 10 7) _ _); refine RD.tk 3 (dm 10 768) (dm 10 15) (hK := ?_)) | ((with_reducible show RD _ _ _ _ _ _ _ (dm 10 15) _ _); refine RD.tk 4 (dm 10 960) (dm 10 31) (hK := ?_)) | ((with_reducible show RD _ _ _ _ _ _ _ (dm 10 31) _ _); refine RD.tk 5 (dm 10 960) (dm 10 63) (hK := ?_)) | ((with_reducible show RD _ _ _ _ _ _ _ (dm 10 63) _ _); refine RD.tk 6 (dm 10 896) (dm 10 127) (hK := ?_)) | ((with_reducible show RD _ _ _ _ _ _ _ (dm 10 127) _ _); refine RD.tk 7 (dm 10 768) (dm 10 255) (hK := ?_)) | ((with_reducible show RD _ _ _ _ _ _ _ (dm 10 255) _ _); refine RD.a1 8 ?_)) | ((with_reducible show RH _ _ _ _ _ _ _ _); refine RH.val (hK := ?_)) | (with_reducible first | refine Run.seq ?_ | refine Run.region ?_ | refine Run.block ?_ | refine Run.skip ?_ | refine Run.exit ?_ | refine Run.ret ?_) | (with_reducible show Run _ _ (.cond _ _ _) _ _ _; refine Run.condD rfl (fun h => ?_) (fun h => ?_)) | (with_reducible first | refine seqN (K := Run _ _ _ _) ?_ | refine seqE ?_ | refine blockE ?_))
      · omega
      · refine ⟨eA, _, [], resA, .ch .nil, ?_⟩
        exact ⟨congrArg vbool (decide_eq_true (eq_of_take (by omega) (by omega) ht)).symm, rfl⟩

set_option maxRecDepth 10000 in
theorem markOpS_m (u : Value) (x : List (Int × (List Int))) (k : Int) (hk : 0 ≤ k) (hx : k + ((sm (List.map (fun y : Int × (List Int) => 1 + y.2.length) x) : Nat) : Int) ≤ 4611686018427387904) (hl : x.length ≤ 4611686018427387904) :
    Spec Try.prog 33 [vlit u, vint k] [hsl (tPair tInt (tS tInt)) u x] (fun r S' => ∃ y : List (Int × (List Int)), r = vint (k + ((sm (List.map (fun y : Int × (List Int) => 1 + y.2.length) x) : Nat) : Int)) ∧ S' = [hsl (tPair tInt (tS tInt)) u y] ∧ (List.map (fun y : Int × (List Int) => y.2.length) y) = (List.map (fun y : Int × (List Int) => y.2.length) x)) := by
  refine Spec.of_run2 (n := 27) Try.func33 rfl Try.results33 Try.ntmps33 rfl ?_
  have hl0 := hl
  repeat' (first | (with_reducible refine RL.done ?_) | (with_reducible refine RL.wanted ?_ ?_; exact rfl) | ((with_reducible show RH _ _ _ _ _ _ _ _); refine RH.val (hK := ?_)) | (with_reducible first | refine Run.seq ?_ | refine Run.region ?_ | refine Run.block ?_) | (with_reducible refine seqN (K := Run _ _ _ _) ?_))
  refine Run.loop (α := Nat × (List (Int × (List Int)))) (fun z => [(0, vlit u), (1, vint (k + (sm ((List.map (fun y : Int × (List Int) => 1 + y.2.length) x).take z.1) : Int))), (5, vint (z.1 : Int))]) (fun z => [hsl (tPair tInt (tS tInt)) u z.2]) (fun z => z.1 ≤ x.length ∧ List.map (fun y : Int × (List Int) => y.2.length) z.2 = List.map (fun y : Int × (List Int) => y.2.length) x) (fun z => x.length - z.1) (0, x) (by simp) (Ent.of (by (repeat (first | exact Sl.nil | refine Sl.cons rfl rfl ?_ | refine Sl.cons rfl (congrArg (fun z => vlit (Value.int .i64 z)) (by omega)) ?_ | refine Sl.cons rfl (by simp [sm]) ?_))) .refl) ?_
  rintro ⟨j, ys⟩ ⟨hj, hm⟩
  dsimp only at hj hm ⊢
  have hly : ys.length = x.length := by simpa using congrArg List.length hm
  have hb := sm_take_le (List.map (fun y : Int × (List Int) => 1 + y.2.length) x) (j + 1)
  rcases Nat.lt_or_eq_of_le hj with h9 | rfl
  · have hsh : (ys[j]'(by omega)).2.length = x[j].2.length := map_at (f := (fun y : Int × (List Int) => y.2.length)) hm (by omega) h9
    have hc : 1 + (ys[j]'(by omega)).2.length = 1 + x[j].2.length := by
      first
        | exact hsh
        | (simp only [Prod.mk.injEq] at hsh; omega)
        | (have h7 := congrArg sm hsh; omega)
        | omega
    have hs : sm ((List.map (fun y : Int × (List Int) => 1 + y.2.length) x).take (j + 1)) = sm ((List.map (fun y : Int × (List Int) => 1 + y.2.length) x).take j) + (1 + x[j].2.length) := sm_take _ x j h9
    repeat' (first | (with_reducible refine RL.done ?_) | (with_reducible refine RL.wanted ?_ ?_; exact rfl) | ((with_reducible show RH _ _ _ ⟨_, .load _ (.tmp 22), _, _, _, _⟩ _ _ _ _); with_reducible refine RH.focusPI (t := tInt) j _ .head (List.getElem?_set_self (by omega)) ?_; intro u1) | ((with_reducible show RH _ _ _ ⟨_, .call ⟨.value (.func 16), _, _⟩, _, _, _, _⟩ _ _ _ _); refine RH.cW Try.call16 ?_; refine ⟨_, _, _, (by repeat (first | exact Pick.nil | (apply Pick.cons; (with_reducible repeat (first | exact Rem.head | apply Rem.tail))))), markIntS_m _ _ _ (by omega) (by (try dsimp only); omega), ?_⟩; rintro _ _ ⟨y1, rfl, rfl, hy1⟩; refine RL.nm ?_) | ((with_reducible show RH _ _ _ _ _ _ _ _); first | refine RH.val (hK := ?_) | refine RH.upd (hK := ?_)) | (with_reducible first | refine Run.seq ?_ | refine Run.region ?_ | refine Run.block ?_ | refine Run.skip ?_ | refine Run.exit ?_ | refine Run.ret ?_) | (with_reducible show Run _ _ (.cond _ _ _) _ _ _; refine Run.condD rfl (fun h => ?_) (fun h => ?_)) | (with_reducible first | refine seqN (K := Run _ _ _ _) ?_ | refine seqE ?_ | refine blockN ?_ | refine blockE ?_))
    · with_reducible refine seqN ?_
      refine ⟨(j + 1, ys.set j (k + (sm ((List.map (fun y : Int × (List Int) => 1 + y.2.length) x).take j) : Int), y1)), ⟨by (try dsimp only); omega, ?_⟩, by (try dsimp only); omega, ((SEnt.unfocusPI (by first | omega | (simp only [List.length_set]; omega)))).ent.trans (Ent.of (by (try dsimp only); (repeat (first | exact Sl.nil | refine Sl.cons rfl rfl ?_ | refine Sl.cons rfl (congrArg (fun z => vlit (Value.int .i64 z)) (by omega)) ?_))) (.cons .head (by rw [List.set_set]) .nil))⟩
      dsimp only
      rw [← hm]
      exact map_set_eq (f := (fun y : Int × (List Int) => y.2.length)) ys j _ (by omega) (by (try dsimp only); exact hy1)
    · omega
  · repeat' (first | (with_reducible refine RL.done ?_) | (with_reducible refine RL.wanted ?_ ?_; exact rfl) | ((with_reducible show RH _ _ _ _ _ _ _ _); first | refine RH.val (hK := ?_) | refine RH.upd (hK := ?_)) | (with_reducible first | refine Run.seq ?_ | refine Run.region ?_ | refine Run.block ?_ | refine Run.skip ?_ | refine Run.exit ?_ | refine Run.ret ?_) | (with_reducible show Run _ _ (.cond _ _ _) _ _ _; refine Run.condD rfl (fun h => ?_) (fun h => ?_)) | (with_reducible first | refine seqN (K := Run _ _ _ _) ?_ | refine seqE ?_ | refine blockE ?_))
    · omega
    · refine ⟨eA, _, [hsl (tPair tInt (tS tInt)) u ys], resA, ?_, ?_⟩
      · exact SEnt.ch (.cons .head rfl .nil)
      · refine ⟨ys, ?_, rfl, hm⟩
        exact congrArg (fun z : Nat => vint (k + (z : Int))) (congrArg sm (List.take_of_length_le (by simp)))

set_option maxRecDepth 10000 in
theorem szAlgebra_c (x : Int × (List (Int × (List Int)))) (left : Int) (h0 : 0 ≤ left) (h1 : left ≤ 1048576) (hg : (InR x.1) ∧ (x.2.length ≤ 9223372036854775807 ∧ ∀ y0 ∈ x.2, (InR y0.1) ∧ (y0.2.length ≤ 9223372036854775807 ∧ ∀ y1 ∈ y0.2, InR y1))) :
    Spec Try.prog 4 [vagg [vint x.1, vsl 2 (fun y : Int × (List Int) => [vint y.1, vsl 1 (fun x : Int => [vint x]) y.2]) x.2], vint left] [] (fun r S' => ∃ q : Int, r = vint q ∧ S' = [] ∧ q ≤ 1048576 ∧ (0 ≤ q → q + ((x.2.length + sm (List.map (fun y : Int × (List Int) => y.2.length) x.2) : Nat) : Int) = left)) := by
  refine Spec.of_run2 (n := 12) Try.func4 rfl Try.results4 Try.ntmps4 rfl ?_
  repeat' (first | (with_reducible first | refine RL.done ?_ | refine RL.app0 ?_) | (with_reducible refine RL.wanted ?_ ?_; exact rfl) | ((with_reducible show RH _ _ _ ⟨some 2, .box _ _, _, _, _, _⟩ _ _ _ _); (refine RH.boxAgg rfl rfl ?_; rintro _ _ ⟨b2, rfl, rfl⟩)) | ((with_reducible show RH _ _ _ ⟨_, .call ⟨.value (.func 18), _, _⟩, _, _, _, _⟩ _ _ _ _); refine RH.cP Try.call18 ?_; refine ⟨_, szOpS_c (x.2) _ (by omega) (by omega) hg.2, ?_⟩; rintro _ _ ⟨q0, rfl, rfl, hq0, hp0⟩) | ((with_reducible show RH _ _ _ _ _ _ _ _); refine RH.val (hK := ?_)) | (with_reducible first | refine Run.seq ?_ | refine Run.region ?_ | refine Run.skip ?_ | refine Run.ret ?_) | (with_reducible show Run _ _ (.cond _ _ _) _ _ _; refine Run.condD rfl (fun h => ?_) (fun h => ?_)) | (with_reducible first | refine seqN (K := Run _ _ _ _) ?_ | refine seqR ?_))
  all_goals first
    | (refine ⟨eA, _, [], resA, .ch .nil, ?_⟩; exact ⟨-1, rfl, rfl, by omega, by omega⟩)
    | (refine ⟨eA, _, [], resA, .ch .nil, ?_⟩; exact ⟨_, rfl, rfl, by omega, by omega⟩)

set_option maxRecDepth 10000 in
theorem toAlgebra_c (x : Int × (List (Int × (List Int)))) (hx : x.2.length + sm (List.map (fun y : Int × (List Int) => y.2.length) x.2) ≤ 1048576) :
    Spec Try.prog 7 [vagg [vint x.1, vsl 2 (fun y : Int × (List Int) => [vint y.1, vsl 1 (fun x : Int => [vint x]) y.2]) x.2]] [] (fun r S' => ∃ s : Sv, r = vagg [vint x.1, vlit (vsv s)] ∧ S' = [hsl (tPair tInt (tS tInt)) (vsv s) x.2]) := by
  refine Spec.of_run2 (n := 12) Try.func7 rfl Try.results7 Try.ntmps7 rfl ?_
  repeat' (first | (with_reducible first | refine RL.done ?_ | refine RL.app1 ?_) | (with_reducible refine RL.wanted ?_ ?_; exact rfl) | ((with_reducible show RH _ _ _ ⟨some 1, .box _ _, _, _, _, _⟩ _ _ _ _); (refine RH.boxAgg rfl rfl ?_; rintro _ _ ⟨b1, rfl, rfl⟩)) | ((with_reducible show RH _ _ _ ⟨some 2, .alloc _, _, _, _, _⟩ _ _ _ _); refine RH.alloc rfl ?_; rintro _ _ ⟨b2, rfl, rfl⟩) | ((with_reducible show RH _ _ _ ⟨some 3, .alloc _, _, _, _, _⟩ _ _ _ _); refine RH.alloc rfl ?_; rintro _ _ ⟨b3, rfl, rfl⟩) | ((with_reducible show RH _ _ _ ⟨_, .call ⟨.value (.func 26), _, _⟩, _, _, _, _⟩ _ _ _ _); refine RH.cP Try.call26 ?_; refine ⟨_, toOpS_c (x.2) (by omega), ?_⟩; rintro _ _ ⟨s, rfl, rfl⟩) | ((with_reducible show RH _ _ _ _ _ _ _ _); first | refine RH.val (hK := ?_) | refine RH.upd (hK := ?_)) | (with_reducible first | refine Run.seq ?_ | refine Run.region ?_ | refine Run.ret ?_) | (with_reducible refine seqN (K := Run _ _ _ _) ?_))
  refine ⟨eA, _, [hsl (tPair tInt (tS tInt)) (vsv s) x.2], resA, ?_, ?_⟩
  · exact SEnt.ch (by repeat (first | exact .nil | refine .cons (by with_reducible repeat (first | exact Rem.head | apply Rem.tail)) rfl ?_))
  · exact ⟨s, rfl, rfl⟩

set_option maxRecDepth 10000 in
theorem eqAlgebra_g (x y : Int × (List (Int × (List Int)))) (hx : x.2.length + sm (List.map (fun y : Int × (List Int) => y.2.length) x.2) ≤ 4611686018427387904) :
    Spec Try.prog 12 [vagg [vint x.1, vsl 2 (fun y : Int × (List Int) => [vint y.1, vsl 1 (fun x : Int => [vint x]) y.2]) x.2], vagg [vint y.1, vsl 2 (fun y : Int × (List Int) => [vint y.1, vsl 1 (fun x : Int => [vint x]) y.2]) y.2]] [] (fun r S' => r = vbool (decide (x = y)) ∧ S' = []) := by
  obtain ⟨x1, x2⟩ := x
  obtain ⟨y1, y2⟩ := y
  dsimp only at hx ⊢
  refine Spec.of_run2 (n := 16) Try.func12 rfl Try.results12 Try.ntmps12 rfl ?_
  repeat' (first | (with_reducible first | refine RL.done ?_ | refine RL.app0 ?_) | (with_reducible refine RL.wanted ?_ ?_; exact rfl) | ((with_reducible show RH _ _ _ ⟨some 2, .box _ _, _, _, _, _⟩ _ _ _ _); (refine RH.boxAgg rfl rfl ?_; rintro _ _ ⟨b2, rfl, rfl⟩)) | ((with_reducible show RH _ _ _ ⟨some 3, .box _ _, _, _, _, _⟩ _ _ _ _); (refine RH.boxAgg rfl rfl ?_; rintro _ _ ⟨b3, rfl, rfl⟩)) | ((with_reducible show RH _ _ _ ⟨_, .call ⟨.value (.func 32), _, _⟩, _, _, _, _⟩ _ _ _ _); refine RH.cP Try.call32 ?_; refine ⟨_, eqOpS_g _ _ (by omega), ?_⟩; rintro _ _ ⟨rfl, rfl⟩) | ((with_reducible show RH _ _ _ _ _ _ _ _); refine RH.val (hK := ?_)) | (with_reducible first | refine Run.seq ?_ | refine Run.region ?_ | refine Run.skip ?_ | refine Run.ret ?_) | (with_reducible show Run _ _ (.cond _ _ _) _ _ _; first | refine Run.condD rfl (fun h => ?_) (fun h => ?_) | refine Run.condND rfl (fun h => ?_) (fun h => ?_)) | (with_reducible first | refine seqN (K := Run _ _ _ _) ?_ | refine seqR ?_))
  all_goals (refine ⟨eA, _, [], resA, .ch .nil, ?_⟩; exact ⟨congrArg vbool (by simp_all), rfl⟩)

set_option maxRecDepth 10000 in
theorem markAlgebra_m (u : Value) (x : Int × (List (Int × (List Int)))) (k : Int) (hk : 0 ≤ k) (hx : k + ((sm (List.map (fun y : Int × (List Int) => 1 + y.2.length) x.2) : Nat) : Int) ≤ 4611686018427387904) (hl : x.2.length ≤ 4611686018427387904) :
    Spec Try.prog 14 [vagg [vint x.1, vlit u], vint k] [hsl (tPair tInt (tS tInt)) u x.2] (fun r S' => ∃ y : Int × (List (Int × (List Int))), r = vint (k + ((sm (List.map (fun y : Int × (List Int) => 1 + y.2.length) x.2) : Nat) : Int)) ∧ S' = [hsl (tPair tInt (tS tInt)) u y.2] ∧ (List.map (fun y : Int × (List Int) => y.2.length) y.2) = (List.map (fun y : Int × (List Int) => y.2.length) x.2)) := by
  refine Spec.of_run2 (n := 10) Try.func14 rfl Try.results14 Try.ntmps14 rfl ?_
  repeat' (first | (with_reducible refine RL.done ?_) | (with_reducible refine RL.wanted ?_ ?_; exact rfl) | ((with_reducible show RH _ _ _ ⟨some 2, .box _ _, _, _, _, _⟩ _ _ _ _); (refine RH.boxAgg rfl rfl ?_; rintro _ _ ⟨b2, rfl, rfl⟩)) | ((with_reducible show RH _ _ _ ⟨_, .call ⟨.value (.func 33), _, _⟩, _, _, _, _⟩ _ _ _ _); refine RH.cW Try.call33 ?_; refine ⟨_, _, _, (by repeat (first | exact Pick.nil | (apply Pick.cons; (with_reducible repeat (first | exact Rem.head | apply Rem.tail))))), markOpS_m _ _ _ hk hx hl, ?_⟩; rintro _ _ ⟨y, rfl, rfl, hy⟩; refine RL.nm ?_) | ((with_reducible show RH _ _ _ _ _ _ _ _); refine RH.val (hK := ?_)) | (with_reducible first | refine Run.seq ?_ | refine Run.region ?_ | refine Run.ret ?_) | (with_reducible refine seqN (K := Run _ _ _ _) ?_))
  refine ⟨eA, _, [hsl (tPair tInt (tS tInt)) u y], resA, ?_, ?_⟩
  · exact SEnt.ch (.cons .head rfl .nil)
  · exact ⟨(x.1, y), rfl, rfl, hy⟩

end Go.Proofs.Ytemfpennomelaaa
