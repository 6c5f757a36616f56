/- The laws' helpers by the shape of their types: sz, to, eq, mark. Proved for this program; conditions: the sizes that szX allows, or lengths below 2^62. -/
import Derived.Test.YtejeeokjjbiadaaLawI
namespace Go.Proofs.Ytejeeokjjbiadaa
open Go Go.Proofs
set_option linter.unusedVariables false

/-- a sum of numbers -/
def sm : List Nat → Nat
  | [] => 0
  | n :: r => n + sm r
theorem sm_append (xs ys : List Nat) : sm (xs ++ ys) = sm xs + sm ys := by
  induction xs with
  | nil => simp [sm]
  | cons x xs ih => simp [sm, ih]; omega
theorem sm_take {α : Type} (f : α → Nat) (xs : List α) (j : Nat) (h : j < xs.length) : sm ((xs.map f).take (j + 1)) = sm ((xs.map f).take j) + f xs[j] := by
  rw [List.take_add_one, List.getElem?_eq_getElem (by simpa using h), sm_append]; simp [sm]
theorem sm_take_le (xs : List Nat) (j : Nat) : sm (xs.take j) ≤ sm xs := by
  have := sm_append (xs.take j) (xs.drop j)
  rw [List.take_append_drop] at this; omega
theorem sm_mem {α : Type} (f : α → Nat) (xs : List α) (x : α) (h : x ∈ xs) : f x ≤ sm (xs.map f) := by
  induction xs with
  | nil => cases h
  | cons y xs ih =>
    simp only [List.map_cons, sm]
    rcases List.mem_cons.1 h with rfl | h
    · omega
    · have := ih h; omega
theorem cp_set {α : Type} (xs : List α) (z : α) (j : Nat) (h : j < xs.length) : (xs.take j ++ List.replicate (xs.length - j) z).set j xs[j] = xs.take (j + 1) ++ List.replicate (xs.length - (j + 1)) z := by
  have e : xs.length - j = (xs.length - (j + 1)) + 1 := by omega
  rw [List.set_append_right _ _ (by simp; omega), List.length_take, Nat.min_eq_left (by omega), Nat.sub_self, e, List.replicate_succ, List.set_cons_zero, show xs.take (j + 1) = xs.take j ++ [xs[j]] from by rw [List.take_add_one, List.getElem?_eq_getElem h]; rfl, List.append_assoc]
  rfl
theorem map_at {α β : Type} {f : α → β} {xs ys : List α} (h : xs.map f = ys.map f) {j : Nat} (h1 : j < xs.length) (h2 : j < ys.length) : f xs[j] = f ys[j] := by
  have := congrArg (fun l => l[j]?) h
  simpa [h1, h2] using this
theorem map_set_eq {α β : Type} (f : α → β) (xs : List α) (j : Nat) (y : α) (h : j < xs.length) (e : f y = f xs[j]) : (xs.set j y).map f = xs.map f := by
  rw [List.map_set, e]
  apply List.ext_getElem?
  intro i
  rw [List.getElem?_set]
  split
  · rename_i hi; subst hi; simp [h]
  · rfl

set_option maxRecDepth 10000 in
theorem szIntS_c (x : List Int) (left : Int) (h0 : 0 ≤ left) (h1 : left ≤ 1048576) (hg : x.length ≤ 9223372036854775807 ∧ ∀ y0 ∈ x, InR y0) :
    Spec Try.prog 113 [vsl 1 (fun x : Int => [vint x]) x, vint left] [] (fun r S' => ∃ q : Int, r = vint q ∧ S' = [] ∧ q ≤ 1048576 ∧ (0 ≤ q → q + ((x.length : Nat) : Int) = left)) := by
  refine Spec.of_run2 (n := 12) Try.func113 rfl Try.results113 Try.ntmps113 rfl ?_
  have hl := hg.1
  repeat' (first | (with_reducible refine RL.done ?_) | (with_reducible refine RL.wanted ?_ ?_; exact rfl) | ((with_reducible show RH _ _ _ _ _ _ _ _); refine RH.val (hK := ?_)) | (with_reducible first | refine Run.seq ?_ | refine Run.region ?_ | refine Run.skip ?_ | refine Run.ret ?_) | (with_reducible show Run _ _ (.cond _ _ _) _ _ _; refine Run.condD rfl (fun h => ?_) (fun h => ?_)) | (with_reducible first | refine seqN (K := Run _ _ _ _) ?_ | refine seqR ?_))
  · refine ⟨eA, _, [], resA, .ch .nil, ?_⟩
    exact ⟨-1, rfl, rfl, by omega, by omega⟩
  · refine ⟨eA, _, [], resA, .ch .nil, ?_⟩
    exact ⟨_, rfl, rfl, by omega, by omega⟩



theorem markIntS_m (u : Value) (x : List Int) (k : Int) (hk : 0 ≤ k) (hx : k + x.length ≤ 4611686018427387904) :
    Spec Try.prog 33 [vlit u, vint k] [hsl tInt u x] (fun r S' => ∃ y : List Int, r = vint (k + x.length) ∧ S' = [hsl tInt u y] ∧ y.length = x.length) :=
  (markIntS_c u x k hk hx).mono fun r S' ⟨h1, h2⟩ => ⟨_, h1, h2, mkI_length _ _⟩

set_option maxRecDepth 10000 in
theorem szIntSS_c (x : List (List Int)) (left : Int) (h0 : 0 ≤ left) (h1 : left ≤ 1048576) (hg : x.length ≤ 9223372036854775807 ∧ ∀ y0 ∈ x, y0.length ≤ 9223372036854775807 ∧ ∀ y1 ∈ y0, InR y1) :
    Spec Try.prog 52 [vsl 1 (fun t : List Int => [vsl 1 (fun x : Int => [vint x]) t]) x, vint left] [] (fun r S' => ∃ q : Int, r = vint q ∧ S' = [] ∧ q ≤ 1048576 ∧ (0 ≤ q → q + ((x.length + sm (List.map (fun y : List Int => y.length) x) : Nat) : Int) = left)) := by
  refine Spec.of_run2 (n := 27) Try.func52 rfl Try.results52 Try.ntmps52 rfl ?_
  have hl := hg.1
  repeat' (first | (with_reducible refine RL.done ?_) | (with_reducible refine RL.wanted ?_ ?_; exact rfl) | ((with_reducible show RH _ _ _ _ _ _ _ _); refine RH.val (hK := ?_)) | (with_reducible first | refine Run.seq ?_ | refine Run.region ?_ | refine Run.block ?_ | refine Run.skip ?_ | refine Run.ret ?_) | (with_reducible show Run _ _ (.cond _ _ _) _ _ _; refine Run.condD rfl (fun h => ?_) (fun h => ?_)) | (with_reducible first | refine seqN (K := Run _ _ _ _) ?_ | refine seqR ?_))
  · refine ⟨eA, _, [], resA, .ch .nil, ?_⟩
    exact ⟨-1, rfl, rfl, by omega, by omega⟩
  · refine Run.loop (α := Nat × Int) (fun z => [(0, vsl 1 (fun t : List Int => [vsl 1 (fun x : Int => [vint x]) t]) x), (1, vint z.2), (5, vint (z.1 : Int))]) (fun _ => []) (fun z => z.1 ≤ x.length ∧ 0 ≤ z.2 ∧ z.2 + (x.length : Int) + (sm ((List.map (fun y : List Int => y.length) x).take z.1) : Int) = left) (fun z => x.length - z.1) (0, left - x.length) (by simp [sm]; omega) (Ent.of slA .refl) ?_
    rintro ⟨j, q⟩ ⟨hj, hq, hs⟩
    dsimp only at hj hq hs ⊢
    repeat' (first | (with_reducible first | refine RL.done ?_ | refine RL.app0 ?_) | (with_reducible refine RL.wanted ?_ ?_; exact rfl) | ((with_reducible show RH _ _ _ ⟨_, .call ⟨.value (.func 113), _, _⟩, _, _, _, _⟩ _ _ _ _); refine RH.cP Try.call113 ?_; refine ⟨_, szIntS_c _ _ (by omega) (by omega) (hg.2 _ (List.getElem_mem _)), ?_⟩; rintro _ _ ⟨q1, rfl, rfl, hq1, hp1⟩) | ((with_reducible show RH _ _ _ _ _ _ _ _); refine RH.val (hK := ?_)) | (with_reducible first | refine Run.seq ?_ | refine Run.region ?_ | refine Run.block ?_ | refine Run.skip ?_ | refine Run.exit ?_ | refine Run.ret ?_) | (with_reducible show Run _ _ (.cond _ _ _) _ _ _; refine Run.condD rfl (fun h => ?_) (fun h => ?_)) | (with_reducible first | refine seqN (K := Run _ _ _ _) ?_ | refine seqE ?_ | refine seqR ?_ | refine blockN ?_ | refine blockR ?_ | refine blockE ?_))
    · refine ⟨eA, _, [], resA, .ch .nil, ?_⟩
      exact ⟨-1, rfl, rfl, by omega, by omega⟩
    · with_reducible refine seqN ?_
      have ht : sm ((List.map (fun y : List Int => y.length) x).take (j + 1)) = sm ((List.map (fun y : List Int => y.length) x).take j) + (x[j].length) := sm_take _ x j (by omega)
      exact ⟨(j + 1, q1), ⟨by (try dsimp only); omega, by (try dsimp only); omega, by (try dsimp only); omega⟩, by (try dsimp only); omega, Ent.of slA .refl⟩
    · obtain rfl : j = x.length := by omega
      rw [List.take_of_length_le (by simp)] at hs
      refine ⟨eA, _, [], resA, .ch .nil, ?_⟩
      exact ⟨q, rfl, rfl, by omega, by omega⟩

set_option maxRecDepth 10000 in
theorem toIntSS_c (x : List (List Int)) (hx : x.length + sm (List.map (fun y : List Int => y.length) x) ≤ 1048576) :
    Spec Try.prog 55 [vsl 1 (fun t : List Int => [vsl 1 (fun x : Int => [vint x]) t]) x] [] (fun r S' => ∃ s : Sv, r = vlit (vsv s) ∧ S' = [hsl (tS tInt) (vsv s) x]) := by
  refine Spec.of_run2 (n := 23) Try.func55 rfl Try.results55 Try.ntmps55 rfl ?_
  repeat' (first | (with_reducible refine RL.done ?_) | (with_reducible refine RL.wanted ?_ ?_; exact rfl) | ((with_reducible show RH _ _ _ ⟨some 7, .makeSlice _ _ _, _, _, _, _⟩ _ _ _ _); refine RH.make (α := List Value) rfl (List.map vlit) [.slice none 0 0] (fun c => .cons rfl .nil) rfl rfl (by omega) (by omega) (by omega) ?_; rintro _ _ ⟨b7, rfl, rfl⟩) | ((with_reducible show RH _ _ _ _ _ _ _ _); refine RH.val (hK := ?_)) | (with_reducible first | refine Run.seq ?_ | refine Run.region ?_ | refine Run.block ?_) | (with_reducible refine seqN (K := Run _ _ _ _) ?_))
  refine Run.sent (SEnt.packRep (tS tInt) (z := []) (us := [.slice none 0 0]) (fun _ => ⟨.slice none 0 0, rfl, .inl ⟨rfl, rfl, rfl⟩⟩) rfl rfl (Nat.le_refl _)) ?_
  refine Run.loop (α := Nat) (fun j => [(0, vsl 1 (fun t : List Int => [vsl 1 (fun x : Int => [vint x]) t]) x), (3, vlit (vsv (some ⟨b7, 0, none⟩, x.length, x.length))), (4, vint (j : Int))]) (fun j => [hsl (tS tInt) (vsv (some ⟨b7, 0, none⟩, x.length, x.length)) (x.take j ++ List.replicate (x.length - j) [])]) (fun j => j ≤ x.length) (fun j => x.length - j) 0 (by simp) (Ent.of slA (.cons .head (by simp) .nil)) ?_
  intro j hj
  have hl : (x.take j ++ List.replicate (x.length - j) []).length = x.length := by simp; omega
  rcases Nat.lt_or_eq_of_le hj with h9 | rfl
  · have hs : x[j].length ≤ sm (List.map (fun y : List Int => y.length) x) := sm_mem (fun y : List Int => y.length) x _ (List.getElem_mem h9)
    repeat' (first | (with_reducible first | refine RL.done ?_ | refine RL.app1 ?_) | (with_reducible refine RL.wanted ?_ ?_; exact rfl) | ((with_reducible show RH _ _ _ ⟨_, .call ⟨.value (.func 23), _, _⟩, _, _, _, _⟩ _ _ _ _); refine RH.cP Try.call23 ?_; refine ⟨_, toIntS_c (x[j]) (by omega), ?_⟩; rintro _ _ ⟨s, rfl, rfl⟩) | ((with_reducible show RH _ _ _ _ _ _ _ _); first | refine RH.val (hK := ?_) | refine RH.upd (hK := ?_)) | (with_reducible first | refine Run.seq ?_ | refine Run.region ?_ | refine Run.block ?_ | refine Run.skip ?_ | refine Run.exit ?_ | refine Run.ret ?_) | (with_reducible show Run _ _ (.cond _ _ _) _ _ _; refine Run.condD rfl (fun h => ?_) (fun h => ?_)) | (with_reducible first | refine seqN (K := Run _ _ _ _) ?_ | refine seqE ?_ | refine blockN ?_ | refine blockE ?_))
    · with_reducible refine seqN ?_
      exact ⟨j + 1, by omega, by omega, Ent.of slA (.cons .head (congrArg (hsl (tS tInt) (vsv (some ⟨b7, 0, none⟩, x.length, x.length))) (cp_set x [] j h9)) .nil)⟩
    · omega
  · repeat' (first | (with_reducible refine RL.done ?_) | (with_reducible refine RL.wanted ?_ ?_; exact rfl) | ((with_reducible show RH _ _ _ _ _ _ _ _); refine RH.val (hK := ?_)) | (with_reducible first | refine Run.seq ?_ | refine Run.region ?_ | refine Run.block ?_ | refine Run.skip ?_ | refine Run.exit ?_ | refine Run.ret ?_) | (with_reducible show Run _ _ (.cond _ _ _) _ _ _; refine Run.condD rfl (fun h => ?_) (fun h => ?_)) | (with_reducible first | refine seqN (K := Run _ _ _ _) ?_ | refine seqE ?_ | refine blockE ?_))
    · omega
    · refine ⟨eA, _, [hsl (tS tInt) (vsv (some ⟨b7, 0, none⟩, x.length, x.length)) x], resA, ?_, ?_⟩
      · exact SEnt.ch (.cons .head (by simp) .nil)
      · exact ⟨(some ⟨b7, 0, none⟩, x.length, x.length), rfl, rfl⟩

set_option maxRecDepth 10000 in
theorem eqIntSS_g (x y : List (List Int)) (hx : x.length + sm (List.map (fun y : List Int => y.length) x) ≤ 4611686018427387904) :
    Spec Try.prog 39 [vsl 1 (fun t : List Int => [vsl 1 (fun x : Int => [vint x]) t]) x, vsl 1 (fun t : List Int => [vsl 1 (fun x : Int => [vint x]) t]) y] [] (fun r S' => r = vbool (decide (x = y)) ∧ S' = []) := by
  refine Spec.of_run2 (n := 27) Try.func39 rfl Try.results39 Try.ntmps39 rfl ?_
  repeat' (first | (with_reducible refine RL.done ?_) | (with_reducible refine RL.wanted ?_ ?_; exact rfl) | ((with_reducible show RH _ _ _ _ _ _ _ _); refine RH.val (hK := ?_)) | (with_reducible first | refine Run.seq ?_ | refine Run.region ?_ | refine Run.block ?_ | refine Run.skip ?_ | refine Run.ret ?_) | (with_reducible show Run _ _ (.cond _ _ _) _ _ _; refine Run.condD rfl (fun h => ?_) (fun h => ?_)) | (with_reducible first | refine seqN (K := Run _ _ _ _) ?_ | refine seqR ?_))
  · refine ⟨eA, _, [], resA, .ch .nil, ?_⟩
    exact ⟨congrArg vbool (decide_eq_false (fun e => by subst e; omega)).symm, rfl⟩
  · refine Run.loop (α := Nat) (fun j => [(0, vsl 1 (fun t : List Int => [vsl 1 (fun x : Int => [vint x]) t]) x), (1, vsl 1 (fun t : List Int => [vsl 1 (fun x : Int => [vint x]) t]) y), (5, vint (j : Int))]) (fun _ => []) (fun j => j ≤ x.length ∧ x.take j = y.take j) (fun j => x.length - j) 0 (by simp) (Ent.of slA .refl) ?_
    rintro j ⟨hj, ht⟩
    rcases Nat.lt_or_eq_of_le hj with h9 | rfl
    · have hs : x[j].length ≤ sm (List.map (fun y : List Int => y.length) x) := sm_mem (fun y : List Int => y.length) x _ (List.getElem_mem h9)
      repeat' (first | (with_reducible first | refine RL.done ?_ | refine RD.app0 ?_) | (with_reducible refine RL.wanted ?_ ?_; exact rfl) | ((with_reducible show Run _ _ (.region 6 _ true) _ _ _); refine Run.regionD (fun i => false) rfl ?_; change RD _ _ _ _ _ _ 10 (dm 10 0) _ _) | ((with_reducible show RD _ _ 6 _ _ _ _ _ _ _); first | ((with_reducible show RD _ _ _ _ _ _ _ (dm 10 0) _ _); refine RD.tk 0 (dm 10 780) (dm 10 1) (hK := ?_)) | ((with_reducible show RD _ _ _ _ _ _ _ (dm 10 1) _ _); refine RD.tk 1 (dm 10 780) (dm 10 3) (hK := ?_)) | ((with_reducible show RD _ _ _ _ _ _ _ (dm 10 3) _ _); refine RD.tk 2 (dm 10 776) (dm 10 7) (hK := ?_)) | ((with_reducible show RD _ _ _ _ _ _ _ (dm 10 7) _ _); refine RD.tk 3 (dm 10 768) (dm 10 15) (hK := ?_)) | ((with_reducible show RD _ _ _ _ _ _ _ (dm 10 15) _ _); refine RD.tk 4 (dm 10 960) (dm 10 31) (hK := ?_)) | ((with_reducible show RD _ _ _ _ _ _ _ (dm 10 31) _ _); refine RD.tk 5 (dm 10 960) (dm 10 63) (hK := ?_)) | ((with_reducible show RD _ _ _ _ _ _ _ (dm 10 63) _ _); refine RD.tk 6 (dm 10 896) (dm 10 127) (hK := ?_)) | ((with_reducible show RD _ _ _ _ _ _ _ (dm 10 127) _ _); refine RD.tk 7 (dm 10 768) (dm 10 255) (hK := ?_)) | ((with_reducible show RD _ _ _ _ _ _ _ (dm 10 255) _ _); refine RD.a1 8 ?_) | ((with_reducible show RD _ _ _ _ _ _ _ (dm 10 511) _ _); refine RD.tk 9 (dm 10 0) (dm 10 1023) (hK := ?_)) | ((with_reducible show RD _ _ _ _ _ _ 0 _ _ _); refine RD.done (by kernel_rfl) ?_)) | ((with_reducible show RO _ _ 6 _ _ _ _ _ _ _ _); ((with_reducible show RO _ _ _ _ _ _ _ (dm 10 255) 8 _ _); (refine RO.cP (dm 10 511) Try.call25 ?_; refine ⟨_, eqIntS_c _ _ (by omega), ?_⟩; rintro _ _ ⟨rfl, rfl⟩))) | ((with_reducible show RH _ _ _ _ _ _ _ _); refine RH.val (hK := ?_)) | (with_reducible first | refine Run.seq ?_ | refine Run.region ?_ | refine Run.block ?_ | refine Run.skip ?_ | refine Run.exit ?_ | refine Run.ret ?_) | (with_reducible show Run _ _ (.cond _ _ _) _ _ _; first | refine Run.condD rfl (fun h => ?_) (fun h => ?_) | refine Run.condND rfl (fun h => ?_) (fun h => ?_)) | (with_reducible first | refine seqN (K := Run _ _ _ _) ?_ | refine seqE ?_ | refine seqR ?_ | refine blockN ?_ | refine blockR ?_ | refine blockE ?_))
      · refine ⟨eA, _, [], resA, .ch .nil, ?_⟩
        exact ⟨congrArg vbool (decide_eq_false (fun e => by subst e; simp_all)).symm, rfl⟩
      · with_reducible refine seqN ?_
        exact ⟨j + 1, ⟨by omega, take_succ_eq (by omega) (by omega) ht (by simp_all)⟩, by omega, Ent.of slA .refl⟩
      · omega
    · repeat' (first | (with_reducible refine RL.done ?_) | (with_reducible refine RL.wanted ?_ ?_; exact rfl) | ((with_reducible show Run _ _ (.region 6 _ true) _ _ _); refine Run.regionD (fun i => false) rfl ?_; change RD _ _ _ _ _ _ 10 (dm 10 0) _ _) | ((with_reducible show RD _ _ 6 _ _ _ _ _ _ _); first | ((with_reducible show RD _ _ _ _ _ _ _ (dm 10 0) _ _); refine RD.tk 0 (dm 10 780) (dm 10 1) (hK := ?_)) | ((with_reducible show RD _ _ _ _ _ _ _ (dm 10 1) _ _); refine RD.tk 1 (dm 10 780) (dm 10 3) (hK := ?_)) | ((with_reducible show RD _ _ _ _ _ _ _ (dm 10 3) _ _); refine RD.tk 2 (dm 10 776) (dm 10 7) (hK := ?_)) | ((with_reducible show RD _ _ _ _ _ _ _ (dm 10 7) _ _); refine RD.tk 3 (dm 10 768) (dm 10 15) (hK := ?_)) | ((with_reducible show RD _ _ _ _ _ _ _ (dm 10 15) _ _); refine RD.tk 4 (dm 10 960) (dm 10 31) (hK := ?_)) | ((with_reducible show RD _ _ _ _ _ _ _ (dm 10 31) _ _); refine RD.tk 5 (dm 10 960) (dm 10 63) (hK := ?_)) | ((with_reducible show RD _ _ _ _ _ _ _ (dm 10 63) _ _); refine RD.tk 6 (dm 10 896) (dm 10 127) (hK := ?_)) | ((with_reducible show RD _ _ _ _ _ _ _ (dm 10 127) _ _); refine RD.tk 7 (dm 10 768) (dm 10 255) (hK := ?_)) | ((with_reducible show RD _ _ _ _ _ _ _ (dm 10 255) _ _); refine RD.a1 8 ?_)) | ((with_reducible show RH _ _ _ _ _ _ _ _); refine RH.val (hK := ?_)) | (with_reducible first | refine Run.seq ?_ | refine Run.region ?_ | refine Run.block ?_ | refine Run.skip ?_ | refine Run.exit ?_ | refine Run.ret ?_) | (with_reducible show Run _ _ (.cond _ _ _) _ _ _; refine Run.condD rfl (fun h => ?_) (fun h => ?_)) | (with_reducible first | refine seqN (K := Run _ _ _ _) ?_ | refine seqE ?_ | refine blockE ?_))
      · omega
      · refine ⟨eA, _, [], resA, .ch .nil, ?_⟩
        exact ⟨congrArg vbool (decide_eq_true (eq_of_take (by omega) (by omega) ht)).symm, rfl⟩

set_option maxRecDepth 10000 in
theorem markIntSS_m (u : Value) (x : List (List Int)) (k : Int) (hk : 0 ≤ k) (hx : k + ((sm (List.map (fun y : List Int => y.length) x) : Nat) : Int) ≤ 4611686018427387904) (hl : x.length ≤ 4611686018427387904) :
    Spec Try.prog 40 [vlit u, vint k] [hsl (tS tInt) u x] (fun r S' => ∃ y : List (List Int), r = vint (k + ((sm (List.map (fun y : List Int => y.length) x) : Nat) : Int)) ∧ S' = [hsl (tS tInt) u y] ∧ (List.map (fun y : List Int => y.length) y) = (List.map (fun y : List Int => y.length) x)) := by
  refine Spec.of_run2 (n := 19) Try.func40 rfl Try.results40 Try.ntmps40 rfl ?_
  have hl0 := hl
  repeat' (first | (with_reducible refine RL.done ?_) | (with_reducible refine RL.wanted ?_ ?_; exact rfl) | ((with_reducible show RH _ _ _ _ _ _ _ _); refine RH.val (hK := ?_)) | (with_reducible first | refine Run.seq ?_ | refine Run.region ?_ | refine Run.block ?_) | (with_reducible refine seqN (K := Run _ _ _ _) ?_))
  refine Run.loop (α := Nat × (List (List Int))) (fun z => [(0, vlit u), (1, vint (k + (sm ((List.map (fun y : List Int => y.length) x).take z.1) : Int))), (5, vint (z.1 : Int))]) (fun z => [hsl (tS tInt) u z.2]) (fun z => z.1 ≤ x.length ∧ List.map (fun y : List Int => y.length) z.2 = List.map (fun y : List Int => y.length) x) (fun z => x.length - z.1) (0, x) (by simp) (Ent.of (by (repeat (first | exact Sl.nil | refine Sl.cons rfl rfl ?_ | refine Sl.cons rfl (congrArg (fun z => vlit (Value.int .i64 z)) (by omega)) ?_ | refine Sl.cons rfl (by simp [sm]) ?_))) .refl) ?_
  rintro ⟨j, ys⟩ ⟨hj, hm⟩
  dsimp only at hj hm ⊢
  have hly : ys.length = x.length := by simpa using congrArg List.length hm
  have hb := sm_take_le (List.map (fun y : List Int => y.length) x) (j + 1)
  rcases Nat.lt_or_eq_of_le hj with h9 | rfl
  · have hsh : (ys[j]'(by omega)).length = x[j].length := map_at (f := (fun y : List Int => y.length)) hm (by omega) h9
    have hc : (ys[j]'(by omega)).length = x[j].length := by
      first
        | exact hsh
        | (simp only [Prod.mk.injEq] at hsh; omega)
        | (have h7 := congrArg sm hsh; omega)
        | omega
    have hs : sm ((List.map (fun y : List Int => y.length) x).take (j + 1)) = sm ((List.map (fun y : List Int => y.length) x).take j) + (x[j].length) := sm_take _ x j h9
    repeat' (first | (with_reducible refine RL.done ?_) | (with_reducible refine RL.wanted ?_ ?_; exact rfl) | ((with_reducible show RH _ _ _ ⟨_, .load _ (.tmp 14), _, _, _, _⟩ _ _ _ _); with_reducible refine RH.focusRow (t := tInt) j (ys[j]'(by omega)) .head (List.getElem?_eq_getElem (by omega)) ?_; intro u1) | ((with_reducible show RH _ _ _ ⟨_, .call ⟨.value (.func 33), _, _⟩, _, _, _, _⟩ _ _ _ _); refine RH.cW Try.call33 ?_; refine ⟨_, _, _, (by repeat (first | exact Pick.nil | (apply Pick.cons; (with_reducible repeat (first | exact Rem.head | apply Rem.tail))))), markIntS_m _ _ _ (by omega) (by omega), ?_⟩; rintro _ _ ⟨y1, rfl, rfl, hy1⟩; refine RL.nm ?_) | ((with_reducible show RH _ _ _ _ _ _ _ _); refine RH.val (hK := ?_)) | (with_reducible first | refine Run.seq ?_ | refine Run.region ?_ | refine Run.block ?_ | refine Run.skip ?_ | refine Run.exit ?_ | refine Run.ret ?_) | (with_reducible show Run _ _ (.cond _ _ _) _ _ _; refine Run.condD rfl (fun h => ?_) (fun h => ?_)) | (with_reducible first | refine seqN (K := Run _ _ _ _) ?_ | refine seqE ?_ | refine blockN ?_ | refine blockE ?_))
    · with_reducible refine seqN ?_
      refine ⟨(j + 1, ys.set j y1), ⟨by (try dsimp only); omega, ?_⟩, by (try dsimp only); omega, ((SEnt.unfocusRow (by first | omega | (simp only [List.length_set]; omega)))).ent.trans (Ent.of (by (try dsimp only); (repeat (first | exact Sl.nil | refine Sl.cons rfl rfl ?_ | refine Sl.cons rfl (congrArg (fun z => vlit (Value.int .i64 z)) (by omega)) ?_))) .refl)⟩
      dsimp only
      rw [← hm]
      exact map_set_eq (f := (fun y : List Int => y.length)) ys j _ (by omega) (by (try dsimp only); exact hy1)
    · omega
  · repeat' (first | (with_reducible refine RL.done ?_) | (with_reducible refine RL.wanted ?_ ?_; exact rfl) | ((with_reducible show RH _ _ _ _ _ _ _ _); first | refine RH.val (hK := ?_) | (refine RH.lr (h := ?_); intro u)) | (with_reducible first | refine Run.seq ?_ | refine Run.region ?_ | refine Run.block ?_ | refine Run.skip ?_ | refine Run.exit ?_ | refine Run.ret ?_) | (with_reducible show Run _ _ (.cond _ _ _) _ _ _; refine Run.condD rfl (fun h => ?_) (fun h => ?_)) | (with_reducible first | refine seqN (K := Run _ _ _ _) ?_ | refine seqE ?_ | refine blockE ?_))
    · omega
    · refine ⟨eA, _, [hsl (tS tInt) u ys], resA, ?_, ?_⟩
      · exact SEnt.ch (.cons .head rfl .nil)
      · refine ⟨ys, ?_, rfl, hm⟩
        exact congrArg (fun z : Nat => vint (k + (z : Int))) (congrArg sm (List.take_of_length_le (by simp)))

set_option maxRecDepth 10000 in
theorem szRelation_c (x : Int × (List (List Int))) (left : Int) (h0 : 0 ≤ left) (h1 : left ≤ 1048576) (hg : (InR x.1) ∧ (x.2.length ≤ 9223372036854775807 ∧ ∀ y0 ∈ x.2, y0.length ≤ 9223372036854775807 ∧ ∀ y1 ∈ y0, InR y1)) :
    Spec Try.prog 134 [vagg [vint x.1, vsl 1 (fun t : List Int => [vsl 1 (fun x : Int => [vint x]) t]) x.2], vint left] [] (fun r S' => ∃ q : Int, r = vint q ∧ S' = [] ∧ q ≤ 1048576 ∧ (0 ≤ q → q + ((x.2.length + sm (List.map (fun y : List Int => y.length) x.2) : Nat) : Int) = left)) := by
  refine Spec.of_run2 (n := 12) Try.func134 rfl Try.results134 Try.ntmps134 rfl ?_
  repeat' (first | (with_reducible first | refine RL.done ?_ | refine RL.app0 ?_) | (with_reducible refine RL.wanted ?_ ?_; exact rfl) | ((with_reducible show RH _ _ _ ⟨some 2, .box _ _, _, _, _, _⟩ _ _ _ _); (refine RH.boxAgg rfl rfl ?_; rintro _ _ ⟨b2, rfl, rfl⟩)) | ((with_reducible show RH _ _ _ ⟨_, .call ⟨.value (.func 52), _, _⟩, _, _, _, _⟩ _ _ _ _); refine RH.cP Try.call52 ?_; refine ⟨_, szIntSS_c (x.2) _ (by omega) (by omega) hg.2, ?_⟩; rintro _ _ ⟨q0, rfl, rfl, hq0, hp0⟩) | ((with_reducible show RH _ _ _ _ _ _ _ _); refine RH.val (hK := ?_)) | (with_reducible first | refine Run.seq ?_ | refine Run.region ?_ | refine Run.skip ?_ | refine Run.ret ?_) | (with_reducible show Run _ _ (.cond _ _ _) _ _ _; refine Run.condD rfl (fun h => ?_) (fun h => ?_)) | (with_reducible first | refine seqN (K := Run _ _ _ _) ?_ | refine seqR ?_))
  all_goals first
    | (refine ⟨eA, _, [], resA, .ch .nil, ?_⟩; exact ⟨-1, rfl, rfl, by omega, by omega⟩)
    | (refine ⟨eA, _, [], resA, .ch .nil, ?_⟩; exact ⟨_, rfl, rfl, by omega, by omega⟩)

set_option maxRecDepth 10000 in
theorem toRelation_c (x : Int × (List (List Int))) (hx : x.2.length + sm (List.map (fun y : List Int => y.length) x.2) ≤ 1048576) :
    Spec Try.prog 140 [vagg [vint x.1, vsl 1 (fun t : List Int => [vsl 1 (fun x : Int => [vint x]) t]) x.2]] [] (fun r S' => ∃ s : Sv, r = vagg [vint x.1, vlit (vsv s)] ∧ S' = [hsl (tS tInt) (vsv s) x.2]) := by
  refine Spec.of_run2 (n := 12) Try.func140 rfl Try.results140 Try.ntmps140 rfl ?_
  repeat' (first | (with_reducible first | refine RL.done ?_ | refine RL.app1 ?_) | (with_reducible refine RL.wanted ?_ ?_; exact rfl) | ((with_reducible show RH _ _ _ ⟨some 1, .box _ _, _, _, _, _⟩ _ _ _ _); (refine RH.boxAgg rfl rfl ?_; rintro _ _ ⟨b1, rfl, rfl⟩)) | ((with_reducible show RH _ _ _ ⟨some 2, .alloc _, _, _, _, _⟩ _ _ _ _); refine RH.alloc rfl ?_; rintro _ _ ⟨b2, rfl, rfl⟩) | ((with_reducible show RH _ _ _ ⟨some 3, .alloc _, _, _, _, _⟩ _ _ _ _); refine RH.alloc rfl ?_; rintro _ _ ⟨b3, rfl, rfl⟩) | ((with_reducible show RH _ _ _ ⟨_, .call ⟨.value (.func 55), _, _⟩, _, _, _, _⟩ _ _ _ _); refine RH.cP Try.call55 ?_; refine ⟨_, toIntSS_c (x.2) (by omega), ?_⟩; rintro _ _ ⟨s, rfl, rfl⟩) | ((with_reducible show RH _ _ _ _ _ _ _ _); first | refine RH.val (hK := ?_) | refine RH.upd (hK := ?_)) | (with_reducible first | refine Run.seq ?_ | refine Run.region ?_ | refine Run.ret ?_) | (with_reducible refine seqN (K := Run _ _ _ _) ?_))
  refine ⟨eA, _, [hsl (tS tInt) (vsv s) x.2], resA, ?_, ?_⟩
  · exact SEnt.ch (by repeat (first | exact .nil | refine .cons (by with_reducible repeat (first | exact Rem.head | apply Rem.tail)) rfl ?_))
  · exact ⟨s, rfl, rfl⟩

set_option maxRecDepth 10000 in
theorem eqRelation_g (x y : Int × (List (List Int))) (hx : x.2.length + sm (List.map (fun y : List Int => y.length) x.2) ≤ 4611686018427387904) :
    Spec Try.prog 69 [vagg [vint x.1, vsl 1 (fun t : List Int => [vsl 1 (fun x : Int => [vint x]) t]) x.2], vagg [vint y.1, vsl 1 (fun t : List Int => [vsl 1 (fun x : Int => [vint x]) t]) y.2]] [] (fun r S' => r = vbool (decide (x = y)) ∧ S' = []) := by
  obtain ⟨x1, x2⟩ := x
  obtain ⟨y1, y2⟩ := y
  dsimp only at hx ⊢
  refine Spec.of_run2 (n := 16) Try.func69 rfl Try.results69 Try.ntmps69 rfl ?_
  repeat' (first | (with_reducible first | refine RL.done ?_ | refine RL.app0 ?_) | (with_reducible refine RL.wanted ?_ ?_; exact rfl) | ((with_reducible show RH _ _ _ ⟨some 2, .box _ _, _, _, _, _⟩ _ _ _ _); (refine RH.boxAgg rfl rfl ?_; rintro _ _ ⟨b2, rfl, rfl⟩)) | ((with_reducible show RH _ _ _ ⟨some 3, .box _ _, _, _, _, _⟩ _ _ _ _); (refine RH.boxAgg rfl rfl ?_; rintro _ _ ⟨b3, rfl, rfl⟩)) | ((with_reducible show RH _ _ _ ⟨_, .call ⟨.value (.func 39), _, _⟩, _, _, _, _⟩ _ _ _ _); refine RH.cP Try.call39 ?_; refine ⟨_, eqIntSS_g _ _ (by omega), ?_⟩; rintro _ _ ⟨rfl, rfl⟩) | ((with_reducible show RH _ _ _ _ _ _ _ _); refine RH.val (hK := ?_)) | (with_reducible first | refine Run.seq ?_ | refine Run.region ?_ | refine Run.skip ?_ | refine Run.ret ?_) | (with_reducible show Run _ _ (.cond _ _ _) _ _ _; first | refine Run.condD rfl (fun h => ?_) (fun h => ?_) | refine Run.condND rfl (fun h => ?_) (fun h => ?_)) | (with_reducible first | refine seqN (K := Run _ _ _ _) ?_ | refine seqR ?_))
  all_goals (refine ⟨eA, _, [], resA, .ch .nil, ?_⟩; exact ⟨congrArg vbool (by simp_all), rfl⟩)

set_option maxRecDepth 10000 in
theorem szRelationS_c (x : List (Int × (List (List Int)))) (left : Int) (h0 : 0 ≤ left) (h1 : left ≤ 1048576) (hg : x.length ≤ 9223372036854775807 ∧ ∀ y0 ∈ x, (InR y0.1) ∧ (y0.2.length ≤ 9223372036854775807 ∧ ∀ y1 ∈ y0.2, y1.length ≤ 9223372036854775807 ∧ ∀ y2 ∈ y1, InR y2)) :
    Spec Try.prog 63 [vsl 2 (fun y : Int × (List (List Int)) => [vint y.1, vsl 1 (fun t : List Int => [vsl 1 (fun x : Int => [vint x]) t]) y.2]) x, vint left] [] (fun r S' => ∃ q : Int, r = vint q ∧ S' = [] ∧ q ≤ 1048576 ∧ (0 ≤ q → q + ((x.length + sm (List.map (fun y : Int × (List (List Int)) => y.2.length + sm (List.map (fun y : List Int => y.length) y.2)) x) : Nat) : Int) = left)) := by
  refine Spec.of_run2 (n := 27) Try.func63 rfl Try.results63 Try.ntmps63 rfl ?_
  have hl := hg.1
  repeat' (first | (with_reducible refine RL.done ?_) | (with_reducible refine RL.wanted ?_ ?_; exact rfl) | ((with_reducible show RH _ _ _ _ _ _ _ _); refine RH.val (hK := ?_)) | (with_reducible first | refine Run.seq ?_ | refine Run.region ?_ | refine Run.block ?_ | refine Run.skip ?_ | refine Run.ret ?_) | (with_reducible show Run _ _ (.cond _ _ _) _ _ _; refine Run.condD rfl (fun h => ?_) (fun h => ?_)) | (with_reducible first | refine seqN (K := Run _ _ _ _) ?_ | refine seqR ?_))
  · refine ⟨eA, _, [], resA, .ch .nil, ?_⟩
    exact ⟨-1, rfl, rfl, by omega, by omega⟩
  · refine Run.loop (α := Nat × Int) (fun z => [(0, vsl 2 (fun y : Int × (List (List Int)) => [vint y.1, vsl 1 (fun t : List Int => [vsl 1 (fun x : Int => [vint x]) t]) y.2]) x), (1, vint z.2), (5, vint (z.1 : Int))]) (fun _ => []) (fun z => z.1 ≤ x.length ∧ 0 ≤ z.2 ∧ z.2 + (x.length : Int) + (sm ((List.map (fun y : Int × (List (List Int)) => y.2.length + sm (List.map (fun y : List Int => y.length) y.2)) x).take z.1) : Int) = left) (fun z => x.length - z.1) (0, left - x.length) (by simp [sm]; omega) (Ent.of slA .refl) ?_
    rintro ⟨j, q⟩ ⟨hj, hq, hs⟩
    dsimp only at hj hq hs ⊢
    repeat' (first | (with_reducible first | refine RL.done ?_ | refine RL.app0 ?_) | (with_reducible refine RL.wanted ?_ ?_; exact rfl) | ((with_reducible show RH _ _ _ ⟨_, .call ⟨.value (.func 134), _, _⟩, _, _, _, _⟩ _ _ _ _); refine RH.cP Try.call134 ?_; refine ⟨_, szRelation_c _ _ (by omega) (by omega) (hg.2 _ (List.getElem_mem _)), ?_⟩; rintro _ _ ⟨q1, rfl, rfl, hq1, hp1⟩) | ((with_reducible show RH _ _ _ _ _ _ _ _); refine RH.val (hK := ?_)) | (with_reducible first | refine Run.seq ?_ | refine Run.region ?_ | refine Run.block ?_ | refine Run.skip ?_ | refine Run.exit ?_ | refine Run.ret ?_) | (with_reducible show Run _ _ (.cond _ _ _) _ _ _; refine Run.condD rfl (fun h => ?_) (fun h => ?_)) | (with_reducible first | refine seqN (K := Run _ _ _ _) ?_ | refine seqE ?_ | refine seqR ?_ | refine blockN ?_ | refine blockR ?_ | refine blockE ?_))
    · refine ⟨eA, _, [], resA, .ch .nil, ?_⟩
      exact ⟨-1, rfl, rfl, by omega, by omega⟩
    · with_reducible refine seqN ?_
      have ht : sm ((List.map (fun y : Int × (List (List Int)) => y.2.length + sm (List.map (fun y : List Int => y.length) y.2)) x).take (j + 1)) = sm ((List.map (fun y : Int × (List (List Int)) => y.2.length + sm (List.map (fun y : List Int => y.length) y.2)) x).take j) + (x[j].2.length + sm (List.map (fun y : List Int => y.length) x[j].2)) := sm_take _ x j (by omega)
      exact ⟨(j + 1, q1), ⟨by (try dsimp only); omega, by (try dsimp only); omega, by (try dsimp only); omega⟩, by (try dsimp only); omega, Ent.of slA .refl⟩
    · obtain rfl : j = x.length := by omega
      rw [List.take_of_length_le (by simp)] at hs
      refine ⟨eA, _, [], resA, .ch .nil, ?_⟩
      exact ⟨q, rfl, rfl, by omega, by omega⟩

set_option maxRecDepth 10000 in
theorem toRelationS_c (x : List (Int × (List (List Int)))) (hx : x.length + sm (List.map (fun y : Int × (List (List Int)) => y.2.length + sm (List.map (fun y : List Int => y.length) y.2)) x) ≤ 1048576) :
    Spec Try.prog 66 [vsl 2 (fun y : Int × (List (List Int)) => [vint y.1, vsl 1 (fun t : List Int => [vsl 1 (fun x : Int => [vint x]) t]) y.2]) x] [] (fun r S' => ∃ s : Sv, r = vlit (vsv s) ∧ S' = [hsl (tPair tInt (tS (tS tInt))) (vsv s) x]) := by
  refine Spec.of_run2 (n := 23) Try.func66 rfl Try.results66 Try.ntmps66 rfl ?_
  repeat' (first | (with_reducible refine RL.done ?_) | (with_reducible refine RL.wanted ?_ ?_; exact rfl) | ((with_reducible show RH _ _ _ ⟨some 7, .makeSlice _ _ _, _, _, _, _⟩ _ _ _ _); refine RH.make (α := List Value) rfl (List.map vlit) [.int .i64 0, .slice none 0 0] (fun c => .cons rfl (.cons rfl (.nil))) rfl rfl (by omega) (by omega) (by omega) ?_; rintro _ _ ⟨b7, rfl, rfl⟩) | ((with_reducible show RH _ _ _ _ _ _ _ _); refine RH.val (hK := ?_)) | (with_reducible first | refine Run.seq ?_ | refine Run.region ?_ | refine Run.block ?_) | (with_reducible refine seqN (K := Run _ _ _ _) ?_))
  refine Run.sent (SEnt.packRep (tPair tInt (tS (tS tInt))) (z := (0, [])) (us := [.int .i64 0, .slice none 0 0]) (fun _ => ⟨[.int .i64 0], [.slice none 0 0], [], [], rfl, rfl, ⟨rfl, rfl⟩, .slice none 0 0, rfl, .inl ⟨rfl, rfl, rfl⟩⟩) rfl rfl (Nat.le_refl _)) ?_
  refine Run.loop (α := Nat) (fun j => [(0, vsl 2 (fun y : Int × (List (List Int)) => [vint y.1, vsl 1 (fun t : List Int => [vsl 1 (fun x : Int => [vint x]) t]) y.2]) x), (3, vlit (vsv (some ⟨b7, 0, none⟩, x.length, x.length))), (4, vint (j : Int))]) (fun j => [hsl (tPair tInt (tS (tS tInt))) (vsv (some ⟨b7, 0, none⟩, x.length, x.length)) (x.take j ++ List.replicate (x.length - j) (0, []))]) (fun j => j ≤ x.length) (fun j => x.length - j) 0 (by simp) (Ent.of slA (.cons .head (by simp) .nil)) ?_
  intro j hj
  have hl : (x.take j ++ List.replicate (x.length - j) (0, [])).length = x.length := by simp; omega
  rcases Nat.lt_or_eq_of_le hj with h9 | rfl
  · have hs : x[j].2.length + sm (List.map (fun y : List Int => y.length) x[j].2) ≤ sm (List.map (fun y : Int × (List (List Int)) => y.2.length + sm (List.map (fun y : List Int => y.length) y.2)) x) := sm_mem (fun y : Int × (List (List Int)) => y.2.length + sm (List.map (fun y : List Int => y.length) y.2)) x _ (List.getElem_mem h9)
    repeat' (first | (with_reducible first | refine RL.done ?_ | refine RL.app1 ?_) | (with_reducible refine RL.wanted ?_ ?_; exact rfl) | ((with_reducible show RH _ _ _ ⟨_, .call ⟨.value (.func 140), _, _⟩, _, _, _, _⟩ _ _ _ _); refine RH.cP Try.call140 ?_; refine ⟨_, toRelation_c (x[j]) (by omega), ?_⟩; rintro _ _ ⟨s, rfl, rfl⟩) | ((with_reducible show RH _ _ _ _ _ _ _ _); first | refine RH.val (hK := ?_) | refine RH.upd (hK := ?_)) | (with_reducible first | refine Run.seq ?_ | refine Run.region ?_ | refine Run.block ?_ | refine Run.skip ?_ | refine Run.exit ?_ | refine Run.ret ?_) | (with_reducible show Run _ _ (.cond _ _ _) _ _ _; refine Run.condD rfl (fun h => ?_) (fun h => ?_)) | (with_reducible first | refine seqN (K := Run _ _ _ _) ?_ | refine seqE ?_ | refine blockN ?_ | refine blockE ?_))
    · with_reducible refine seqN ?_
      exact ⟨j + 1, by omega, by omega, Ent.of slA (.cons .head (congrArg (hsl (tPair tInt (tS (tS tInt))) (vsv (some ⟨b7, 0, none⟩, x.length, x.length))) (cp_set x (0, []) j h9)) .nil)⟩
    · omega
  · repeat' (first | (with_reducible refine RL.done ?_) | (with_reducible refine RL.wanted ?_ ?_; exact rfl) | ((with_reducible show RH _ _ _ _ _ _ _ _); refine RH.val (hK := ?_)) | (with_reducible first | refine Run.seq ?_ | refine Run.region ?_ | refine Run.block ?_ | refine Run.skip ?_ | refine Run.exit ?_ | refine Run.ret ?_) | (with_reducible show Run _ _ (.cond _ _ _) _ _ _; refine Run.condD rfl (fun h => ?_) (fun h => ?_)) | (with_reducible first | refine seqN (K := Run _ _ _ _) ?_ | refine seqE ?_ | refine blockE ?_))
    · omega
    · refine ⟨eA, _, [hsl (tPair tInt (tS (tS tInt))) (vsv (some ⟨b7, 0, none⟩, x.length, x.length)) x], resA, ?_, ?_⟩
      · exact SEnt.ch (.cons .head (by simp) .nil)
      · exact ⟨(some ⟨b7, 0, none⟩, x.length, x.length), rfl, rfl⟩

set_option maxRecDepth 10000 in
theorem eqRelationS_g (x y : List (Int × (List (List Int)))) (hx : x.length + sm (List.map (fun y : Int × (List (List Int)) => y.2.length + sm (List.map (fun y : List Int => y.length) y.2)) x) ≤ 4611686018427387904) :
    Spec Try.prog 70 [vsl 2 (fun y : Int × (List (List Int)) => [vint y.1, vsl 1 (fun t : List Int => [vsl 1 (fun x : Int => [vint x]) t]) y.2]) x, vsl 2 (fun y : Int × (List (List Int)) => [vint y.1, vsl 1 (fun t : List Int => [vsl 1 (fun x : Int => [vint x]) t]) y.2]) y] [] (fun r S' => r = vbool (decide (x = y)) ∧ S' = []) := by
  refine Spec.of_run2 (n := 27) Try.func70 rfl Try.results70 Try.ntmps70 rfl ?_
  repeat' (first | (with_reducible refine RL.done ?_) | (with_reducible refine RL.wanted ?_ ?_; exact rfl) | ((with_reducible show RH _ _ _ _ _ _ _ _); refine RH.val (hK := ?_)) | (with_reducible first | refine Run.seq ?_ | refine Run.region ?_ | refine Run.block ?_ | refine Run.skip ?_ | refine Run.ret ?_) | (with_reducible show Run _ _ (.cond _ _ _) _ _ _; refine Run.condD rfl (fun h => ?_) (fun h => ?_)) | (with_reducible first | refine seqN (K := Run _ _ _ _) ?_ | refine seqR ?_))
  · refine ⟨eA, _, [], resA, .ch .nil, ?_⟩
    exact ⟨congrArg vbool (decide_eq_false (fun e => by subst e; omega)).symm, rfl⟩
  · refine Run.loop (α := Nat) (fun j => [(0, vsl 2 (fun y : Int × (List (List Int)) => [vint y.1, vsl 1 (fun t : List Int => [vsl 1 (fun x : Int => [vint x]) t]) y.2]) x), (1, vsl 2 (fun y : Int × (List (List Int)) => [vint y.1, vsl 1 (fun t : List Int => [vsl 1 (fun x : Int => [vint x]) t]) y.2]) y), (5, vint (j : Int))]) (fun _ => []) (fun j => j ≤ x.length ∧ x.take j = y.take j) (fun j => x.length - j) 0 (by simp) (Ent.of slA .refl) ?_
    rintro j ⟨hj, ht⟩
    rcases Nat.lt_or_eq_of_le hj with h9 | rfl
    · have hs : x[j].2.length + sm (List.map (fun y : List Int => y.length) x[j].2) ≤ sm (List.map (fun y : Int × (List (List Int)) => y.2.length + sm (List.map (fun y : List Int => y.length) y.2)) x) := sm_mem (fun y : Int × (List (List Int)) => y.2.length + sm (List.map (fun y : List Int => y.length) y.2)) x _ (List.getElem_mem h9)
      repeat' (first | (with_reducible first | refine RL.done ?_ | refine RD.app0 ?_) | (with_reducible refine RL.wanted ?_ ?_; exact rfl) | ((with_reducible show Run _ _ (.region 6 _ true) _ _ _); refine Run.regionD (fun i => false) rfl ?_; change RD _ _ _ _ _ _ 10 (dm 10 0) _ _) | ((with_reducible show RD _ _ 6 _ _ _ _ _ _ _); first | ((with_reducible show RD _ _ _ _ _ _ _ (dm 10 0) _ _); refine RD.tk 0 (dm 10 780) (dm 10 1) (hK := ?_)) | ((with_reducible show RD _ _ _ _ _ _ _ (dm 10 1) _ _); refine RD.tk 1 (dm 10 780) (dm 10 3) (hK := ?_)) | ((with_reducible show RD _ _ _ _ _ _ _ (dm 10 3) _ _); refine RD.tk 2 (dm 10 776) (dm 10 7) (hK := ?_)) | ((with_reducible show RD _ _ _ _ _ _ _ (dm 10 7) _ _); refine RD.tk 3 (dm 10 768) (dm 10 15) (hK := ?_)) | ((with_reducible show RD _ _ _ _ _ _ _ (dm 10 15) _ _); refine RD.tk 4 (dm 10 960) (dm 10 31) (hK := ?_)) | ((with_reducible show RD _ _ _ _ _ _ _ (dm 10 31) _ _); refine RD.tk 5 (dm 10 960) (dm 10 63) (hK := ?_)) | ((with_reducible show RD _ _ _ _ _ _ _ (dm 10 63) _ _); refine RD.tk 6 (dm 10 896) (dm 10 127) (hK := ?_)) | ((with_reducible show RD _ _ _ _ _ _ _ (dm 10 127) _ _); refine RD.tk 7 (dm 10 768) (dm 10 255) (hK := ?_)) | ((with_reducible show RD _ _ _ _ _ _ _ (dm 10 255) _ _); refine RD.a1 8 ?_) | ((with_reducible show RD _ _ _ _ _ _ _ (dm 10 511) _ _); refine RD.tk 9 (dm 10 0) (dm 10 1023) (hK := ?_)) | ((with_reducible show RD _ _ _ _ _ _ 0 _ _ _); refine RD.done (by kernel_rfl) ?_)) | ((with_reducible show RO _ _ 6 _ _ _ _ _ _ _ _); ((with_reducible show RO _ _ _ _ _ _ _ (dm 10 255) 8 _ _); (refine RO.cP (dm 10 511) Try.call69 ?_; refine ⟨_, eqRelation_g _ _ (by omega), ?_⟩; rintro _ _ ⟨rfl, rfl⟩))) | ((with_reducible show RH _ _ _ _ _ _ _ _); refine RH.val (hK := ?_)) | (with_reducible first | refine Run.seq ?_ | refine Run.region ?_ | refine Run.block ?_ | refine Run.skip ?_ | refine Run.exit ?_ | refine Run.ret ?_) | (with_reducible show Run _ _ (.cond _ _ _) _ _ _; first | refine Run.condD rfl (fun h => ?_) (fun h => ?_) | refine Run.condND rfl (fun h => ?_) (fun h => ?_)) | (with_reducible first | refine seqN (K := Run _ _ _ _) ?_ | refine seqE ?_ | refine seqR ?_ | refine blockN ?_ | refine blockR ?_ | refine blockE ?_))
      · refine ⟨eA, _, [], resA, .ch .nil, ?_⟩
        exact ⟨congrArg vbool (decide_eq_false (fun e => by subst e; simp_all)).symm, rfl⟩
      · with_reducible refine seqN ?_
        exact ⟨j + 1, ⟨by omega, take_succ_eq (by omega) (by omega) ht (by simp_all)⟩, by omega, Ent.of slA .refl⟩
      · omega
    · repeat' (first | (with_reducible refine RL.done ?_) | (with_reducible refine RL.wanted ?_ ?_; exact rfl) | ((with_reducible show Run _ _ (.region 6 _ true) _ _ _); refine Run.regionD (fun i => false) rfl ?_; change RD _ _ _ _ _ _ 10 (dm 10 0) _ _) | ((with_reducible show RD _ _ 6 _ _ _ _ _ _ _); first | ((with_reducible show RD _ _ _ _ _ _ _ (dm 10 0) _ _); refine RD.tk 0 (dm 10 780) (dm 10 1) (hK := ?_)) | ((with_reducible show RD _ _ _ _ _ _ _ (dm 10 1) _ _); refine RD.tk 1 (dm 10 780) (dm 10 3) (hK := ?_)) | ((with_reducible show RD _ _ _ _ _ _ _ (dm 10 3) _ _); refine RD.tk 2 (dm 10 776) (dm 10 7) (hK := ?_)) | ((with_reducible show RD _ _ _ _ _ _ _ (dm 10 7) _ _); refine RD.tk 3 (dm 10 768) (dm 10 15) (hK := ?_)) | ((with_reducible show RD _ _ _ _ _ _ _ (dm 10 15) _ _); refine RD.tk 4 (dm 10 960) (dm 10 31) (hK := ?_)) | ((with_reducible show RD _ _ _ _ _ _ _ (dm 10 31) _ _); refine RD.tk 5 (dm 10 960) (dm 10 63) (hK := ?_)) | ((with_reducible show RD _ _ _ _ _ _ _ (dm 10 63) _ _); refine RD.tk 6 (dm 10 896) (dm 10 127) (hK := ?_)) | ((with_reducible show RD _ _ _ _ _ _ _ (dm 10 127) _ _); refine RD.tk 7 (dm 10 768) (dm 10 255) (hK := ?_)) | ((with_reducible show RD _ _ _ _ _ _ _ (dm 10 255) _ _); refine RD.a1 8 ?_)) | ((with_reducible show RH _ _ _ _ _ _ _ _); refine RH.val (hK := ?_)) | (with_reducible first | refine Run.seq ?_ | refine Run.region ?_ | refine Run.block ?_ | refine Run.skip ?_ | refine Run.exit ?_ | refine Run.ret ?_) | (with_reducible show Run _ _ (.cond _ _ _) _ _ _; refine Run.condD rfl (fun h => ?_) (fun h => ?_)) | (with_reducible first | refine seqN (K := Run _ _ _ _) ?_ | refine seqE ?_ | refine blockE ?_))
      · omega
      · refine ⟨eA, _, [], resA, .ch .nil, ?_⟩
        exact ⟨congrArg vbool (decide_eq_true (eq_of_take (by omega) (by omega) ht)).symm, rfl⟩

set_option maxRecDepth 10000 in
theorem markRelationS_m (u : Value) (x : List (Int × (List (List Int)))) (k : Int) (hk : 0 ≤ k) (hx : k + ((sm (List.map (fun y : Int × (List (List Int)) => 1 + sm (List.map (fun y : List Int => y.length) y.2)) x) : Nat) : Int) ≤ 4611686018427387904) (hl : x.length ≤ 4611686018427387904 ∧ ∀ y ∈ x, y.2.length ≤ 4611686018427387904) :
    Spec Try.prog 72 [vlit u, vint k] [hsl (tPair tInt (tS (tS tInt))) u x] (fun r S' => ∃ y : List (Int × (List (List Int))), r = vint (k + ((sm (List.map (fun y : Int × (List (List Int)) => 1 + sm (List.map (fun y : List Int => y.length) y.2)) x) : Nat) : Int)) ∧ S' = [hsl (tPair tInt (tS (tS tInt))) u y] ∧ (List.map (fun y : Int × (List (List Int)) => (List.map (fun y : List Int => y.length) y.2)) y) = (List.map (fun y : Int × (List (List Int)) => (List.map (fun y : List Int => y.length) y.2)) x)) := by
  refine Spec.of_run2 (n := 27) Try.func72 rfl Try.results72 Try.ntmps72 rfl ?_
  have hl0 := hl.1
  repeat' (first | (with_reducible refine RL.done ?_) | (with_reducible refine RL.wanted ?_ ?_; exact rfl) | ((with_reducible show RH _ _ _ _ _ _ _ _); refine RH.val (hK := ?_)) | (with_reducible first | refine Run.seq ?_ | refine Run.region ?_ | refine Run.block ?_) | (with_reducible refine seqN (K := Run _ _ _ _) ?_))
  refine Run.loop (α := Nat × (List (Int × (List (List Int))))) (fun z => [(0, vlit u), (1, vint (k + (sm ((List.map (fun y : Int × (List (List Int)) => 1 + sm (List.map (fun y : List Int => y.length) y.2)) x).take z.1) : Int))), (5, vint (z.1 : Int))]) (fun z => [hsl (tPair tInt (tS (tS tInt))) u z.2]) (fun z => z.1 ≤ x.length ∧ List.map (fun y : Int × (List (List Int)) => (List.map (fun y : List Int => y.length) y.2)) z.2 = List.map (fun y : Int × (List (List Int)) => (List.map (fun y : List Int => y.length) y.2)) x) (fun z => x.length - z.1) (0, x) (by simp) (Ent.of (by (repeat (first | exact Sl.nil | refine Sl.cons rfl rfl ?_ | refine Sl.cons rfl (congrArg (fun z => vlit (Value.int .i64 z)) (by omega)) ?_ | refine Sl.cons rfl (by simp [sm]) ?_))) .refl) ?_
  rintro ⟨j, ys⟩ ⟨hj, hm⟩
  dsimp only at hj hm ⊢
  have hly : ys.length = x.length := by simpa using congrArg List.length hm
  have hb := sm_take_le (List.map (fun y : Int × (List (List Int)) => 1 + sm (List.map (fun y : List Int => y.length) y.2)) x) (j + 1)
  rcases Nat.lt_or_eq_of_le hj with h9 | rfl
  · have hsh : (List.map (fun y : List Int => y.length) (ys[j]'(by omega)).2) = (List.map (fun y : List Int => y.length) x[j].2) := map_at (f := (fun y : Int × (List (List Int)) => (List.map (fun y : List Int => y.length) y.2))) hm (by omega) h9
    have hc : 1 + sm (List.map (fun y : List Int => y.length) (ys[j]'(by omega)).2) = 1 + sm (List.map (fun y : List Int => y.length) x[j].2) := by
      first
        | exact hsh
        | (simp only [Prod.mk.injEq] at hsh; omega)
        | (have h7 := congrArg sm hsh; omega)
        | omega
    have hs : sm ((List.map (fun y : Int × (List (List Int)) => 1 + sm (List.map (fun y : List Int => y.length) y.2)) x).take (j + 1)) = sm ((List.map (fun y : Int × (List (List Int)) => 1 + sm (List.map (fun y : List Int => y.length) y.2)) x).take j) + (1 + sm (List.map (fun y : List Int => y.length) x[j].2)) := sm_take _ x j h9
    have hlj : (ys[j]'(by omega)).2.length ≤ 4611686018427387904 := by
      have h7 := congrArg List.length hsh
      simp only [List.length_map] at h7
      have h8 := hl.2 _ (List.getElem_mem h9)
      omega
    repeat' (first | (with_reducible refine RL.done ?_) | (with_reducible refine RL.wanted ?_ ?_; exact rfl) | ((with_reducible show RH _ _ _ ⟨_, .load _ (.tmp 22), _, _, _, _⟩ _ _ _ _); with_reducible refine RH.focusPI (t := tS tInt) j _ .head (List.getElem?_set_self (by omega)) ?_; intro u1) | ((with_reducible show RH _ _ _ ⟨_, .call ⟨.value (.func 40), _, _⟩, _, _, _, _⟩ _ _ _ _); refine RH.cW Try.call40 ?_; refine ⟨_, _, _, (by repeat (first | exact Pick.nil | (apply Pick.cons; (with_reducible repeat (first | exact Rem.head | apply Rem.tail))))), markIntSS_m _ _ _ (by omega) (by (try dsimp only); omega) hlj, ?_⟩; rintro _ _ ⟨y1, rfl, rfl, hy1⟩; refine RL.nm ?_) | ((with_reducible show RH _ _ _ _ _ _ _ _); first | refine RH.val (hK := ?_) | refine RH.upd (hK := ?_)) | (with_reducible first | refine Run.seq ?_ | refine Run.region ?_ | refine Run.block ?_ | refine Run.skip ?_ | refine Run.exit ?_ | refine Run.ret ?_) | (with_reducible show Run _ _ (.cond _ _ _) _ _ _; refine Run.condD rfl (fun h => ?_) (fun h => ?_)) | (with_reducible first | refine seqN (K := Run _ _ _ _) ?_ | refine seqE ?_ | refine blockN ?_ | refine blockE ?_))
    · with_reducible refine seqN ?_
      refine ⟨(j + 1, ys.set j (k + (sm ((List.map (fun y : Int × (List (List Int)) => 1 + sm (List.map (fun y : List Int => y.length) y.2)) x).take j) : Int), y1)), ⟨by (try dsimp only); omega, ?_⟩, by (try dsimp only); omega, ((SEnt.unfocusPI (by first | omega | (simp only [List.length_set]; omega)))).ent.trans (Ent.of (by (try dsimp only); (repeat (first | exact Sl.nil | refine Sl.cons rfl rfl ?_ | refine Sl.cons rfl (congrArg (fun z => vlit (Value.int .i64 z)) (by omega)) ?_))) (.cons .head (by rw [List.set_set]) .nil))⟩
      dsimp only
      rw [← hm]
      exact map_set_eq (f := (fun y : Int × (List (List Int)) => (List.map (fun y : List Int => y.length) y.2))) ys j _ (by omega) (by (try dsimp only); exact hy1)
    · omega
  · repeat' (first | (with_reducible refine RL.done ?_) | (with_reducible refine RL.wanted ?_ ?_; exact rfl) | ((with_reducible show RH _ _ _ _ _ _ _ _); first | refine RH.val (hK := ?_) | refine RH.upd (hK := ?_)) | (with_reducible first | refine Run.seq ?_ | refine Run.region ?_ | refine Run.block ?_ | refine Run.skip ?_ | refine Run.exit ?_ | refine Run.ret ?_) | (with_reducible show Run _ _ (.cond _ _ _) _ _ _; refine Run.condD rfl (fun h => ?_) (fun h => ?_)) | (with_reducible first | refine seqN (K := Run _ _ _ _) ?_ | refine seqE ?_ | refine blockE ?_))
    · omega
    · refine ⟨eA, _, [hsl (tPair tInt (tS (tS tInt))) u ys], resA, ?_, ?_⟩
      · exact SEnt.ch (.cons .head rfl .nil)
      · refine ⟨ys, ?_, rfl, hm⟩
        exact congrArg (fun z : Nat => vint (k + (z : Int))) (congrArg sm (List.take_of_length_le (by simp)))

set_option maxRecDepth 10000 in
theorem szAtom_c (x : Int × (List Int)) (left : Int) (h0 : 0 ≤ left) (h1 : left ≤ 1048576) (hg : (InR x.1) ∧ (x.2.length ≤ 9223372036854775807 ∧ ∀ y0 ∈ x.2, InR y0)) :
    Spec Try.prog 135 [vagg [vint x.1, vsl 1 (fun x : Int => [vint x]) x.2], vint left] [] (fun r S' => ∃ q : Int, r = vint q ∧ S' = [] ∧ q ≤ 1048576 ∧ (0 ≤ q → q + ((x.2.length : Nat) : Int) = left)) := by
  refine Spec.of_run2 (n := 12) Try.func135 rfl Try.results135 Try.ntmps135 rfl ?_
  repeat' (first | (with_reducible first | refine RL.done ?_ | refine RL.app0 ?_) | (with_reducible refine RL.wanted ?_ ?_; exact rfl) | ((with_reducible show RH _ _ _ ⟨some 2, .box _ _, _, _, _, _⟩ _ _ _ _); (refine RH.boxAgg rfl rfl ?_; rintro _ _ ⟨b2, rfl, rfl⟩)) | ((with_reducible show RH _ _ _ ⟨_, .call ⟨.value (.func 113), _, _⟩, _, _, _, _⟩ _ _ _ _); refine RH.cP Try.call113 ?_; refine ⟨_, szIntS_c (x.2) _ (by omega) (by omega) hg.2, ?_⟩; rintro _ _ ⟨q0, rfl, rfl, hq0, hp0⟩) | ((with_reducible show RH _ _ _ _ _ _ _ _); refine RH.val (hK := ?_)) | (with_reducible first | refine Run.seq ?_ | refine Run.region ?_ | refine Run.skip ?_ | refine Run.ret ?_) | (with_reducible show Run _ _ (.cond _ _ _) _ _ _; refine Run.condD rfl (fun h => ?_) (fun h => ?_)) | (with_reducible first | refine seqN (K := Run _ _ _ _) ?_ | refine seqR ?_))
  all_goals first
    | (refine ⟨eA, _, [], resA, .ch .nil, ?_⟩; exact ⟨-1, rfl, rfl, by omega, by omega⟩)
    | (refine ⟨eA, _, [], resA, .ch .nil, ?_⟩; exact ⟨_, rfl, rfl, by omega, by omega⟩)

set_option maxRecDepth 10000 in
theorem toAtom_c (x : Int × (List Int)) (hx : x.2.length ≤ 1048576) :
    Spec Try.prog 141 [vagg [vint x.1, vsl 1 (fun x : Int => [vint x]) x.2]] [] (fun r S' => ∃ s : Sv, r = vagg [vint x.1, vlit (vsv s)] ∧ S' = [hsl tInt (vsv s) x.2]) := by
  refine Spec.of_run2 (n := 12) Try.func141 rfl Try.results141 Try.ntmps141 rfl ?_
  repeat' (first | (with_reducible first | refine RL.done ?_ | refine RL.app1 ?_) | (with_reducible refine RL.wanted ?_ ?_; exact rfl) | ((with_reducible show RH _ _ _ ⟨some 1, .box _ _, _, _, _, _⟩ _ _ _ _); (refine RH.boxAgg rfl rfl ?_; rintro _ _ ⟨b1, rfl, rfl⟩)) | ((with_reducible show RH _ _ _ ⟨some 2, .alloc _, _, _, _, _⟩ _ _ _ _); refine RH.alloc rfl ?_; rintro _ _ ⟨b2, rfl, rfl⟩) | ((with_reducible show RH _ _ _ ⟨some 3, .alloc _, _, _, _, _⟩ _ _ _ _); refine RH.alloc rfl ?_; rintro _ _ ⟨b3, rfl, rfl⟩) | ((with_reducible show RH _ _ _ ⟨_, .call ⟨.value (.func 23), _, _⟩, _, _, _, _⟩ _ _ _ _); refine RH.cP Try.call23 ?_; refine ⟨_, toIntS_c (x.2) (by omega), ?_⟩; rintro _ _ ⟨s, rfl, rfl⟩) | ((with_reducible show RH _ _ _ _ _ _ _ _); first | refine RH.val (hK := ?_) | refine RH.upd (hK := ?_)) | (with_reducible first | refine Run.seq ?_ | refine Run.region ?_ | refine Run.ret ?_) | (with_reducible refine seqN (K := Run _ _ _ _) ?_))
  refine ⟨eA, _, [hsl tInt (vsv s) x.2], resA, ?_, ?_⟩
  · exact SEnt.ch (by repeat (first | exact .nil | refine .cons (by with_reducible repeat (first | exact Rem.head | apply Rem.tail)) rfl ?_))
  · exact ⟨s, rfl, rfl⟩

set_option maxRecDepth 10000 in
theorem eqAtom_g (x y : Int × (List Int)) (hx : x.2.length ≤ 4611686018427387904) :
    Spec Try.prog 149 [vagg [vint x.1, vsl 1 (fun x : Int => [vint x]) x.2], vagg [vint y.1, vsl 1 (fun x : Int => [vint x]) y.2]] [] (fun r S' => r = vbool (decide (x = y)) ∧ S' = []) := by
  obtain ⟨x1, x2⟩ := x
  obtain ⟨y1, y2⟩ := y
  dsimp only at hx ⊢
  refine Spec.of_run2 (n := 16) Try.func149 rfl Try.results149 Try.ntmps149 rfl ?_
  repeat' (first | (with_reducible first | refine RL.done ?_ | refine RL.app0 ?_) | (with_reducible refine RL.wanted ?_ ?_; exact rfl) | ((with_reducible show RH _ _ _ ⟨some 2, .box _ _, _, _, _, _⟩ _ _ _ _); (refine RH.boxAgg rfl rfl ?_; rintro _ _ ⟨b2, rfl, rfl⟩)) | ((with_reducible show RH _ _ _ ⟨some 3, .box _ _, _, _, _, _⟩ _ _ _ _); (refine RH.boxAgg rfl rfl ?_; rintro _ _ ⟨b3, rfl, rfl⟩)) | ((with_reducible show RH _ _ _ ⟨_, .call ⟨.value (.func 25), _, _⟩, _, _, _, _⟩ _ _ _ _); refine RH.cP Try.call25 ?_; refine ⟨_, eqIntS_c _ _ (by omega), ?_⟩; rintro _ _ ⟨rfl, rfl⟩) | ((with_reducible show RH _ _ _ _ _ _ _ _); refine RH.val (hK := ?_)) | (with_reducible first | refine Run.seq ?_ | refine Run.region ?_ | refine Run.skip ?_ | refine Run.ret ?_) | (with_reducible show Run _ _ (.cond _ _ _) _ _ _; first | refine Run.condD rfl (fun h => ?_) (fun h => ?_) | refine Run.condND rfl (fun h => ?_) (fun h => ?_)) | (with_reducible first | refine seqN (K := Run _ _ _ _) ?_ | refine seqR ?_))
  all_goals (refine ⟨eA, _, [], resA, .ch .nil, ?_⟩; exact ⟨congrArg vbool (by simp_all), rfl⟩)

set_option maxRecDepth 10000 in
theorem szAtomS_c (x : List (Int × (List Int))) (left : Int) (h0 : 0 ≤ left) (h1 : left ≤ 1048576) (hg : x.length ≤ 9223372036854775807 ∧ ∀ y0 ∈ x, (InR y0.1) ∧ (y0.2.length ≤ 9223372036854775807 ∧ ∀ y1 ∈ y0.2, InR y1)) :
    Spec Try.prog 64 [vsl 2 (fun y : Int × (List Int) => [vint y.1, vsl 1 (fun x : Int => [vint x]) y.2]) x, vint left] [] (fun r S' => ∃ q : Int, r = vint q ∧ S' = [] ∧ q ≤ 1048576 ∧ (0 ≤ q → q + ((x.length + sm (List.map (fun y : Int × (List Int) => y.2.length) x) : Nat) : Int) = left)) := by
  refine Spec.of_run2 (n := 27) Try.func64 rfl Try.results64 Try.ntmps64 rfl ?_
  have hl := hg.1
  repeat' (first | (with_reducible refine RL.done ?_) | (with_reducible refine RL.wanted ?_ ?_; exact rfl) | ((with_reducible show RH _ _ _ _ _ _ _ _); refine RH.val (hK := ?_)) | (with_reducible first | refine Run.seq ?_ | refine Run.region ?_ | refine Run.block ?_ | refine Run.skip ?_ | refine Run.ret ?_) | (with_reducible show Run _ _ (.cond _ _ _) _ _ _; refine Run.condD rfl (fun h => ?_) (fun h => ?_)) | (with_reducible first | refine seqN (K := Run _ _ _ _) ?_ | refine seqR ?_))
  · refine ⟨eA, _, [], resA, .ch .nil, ?_⟩
    exact ⟨-1, rfl, rfl, by omega, by omega⟩
  · refine Run.loop (α := Nat × Int) (fun z => [(0, vsl 2 (fun y : Int × (List Int) => [vint y.1, vsl 1 (fun x : Int => [vint x]) y.2]) x), (1, vint z.2), (5, vint (z.1 : Int))]) (fun _ => []) (fun z => z.1 ≤ x.length ∧ 0 ≤ z.2 ∧ z.2 + (x.length : Int) + (sm ((List.map (fun y : Int × (List Int) => y.2.length) x).take z.1) : Int) = left) (fun z => x.length - z.1) (0, left - x.length) (by simp [sm]; omega) (Ent.of slA .refl) ?_
    rintro ⟨j, q⟩ ⟨hj, hq, hs⟩
    dsimp only at hj hq hs ⊢
    repeat' (first | (with_reducible first | refine RL.done ?_ | refine RL.app0 ?_) | (with_reducible refine RL.wanted ?_ ?_; exact rfl) | ((with_reducible show RH _ _ _ ⟨_, .call ⟨.value (.func 135), _, _⟩, _, _, _, _⟩ _ _ _ _); refine RH.cP Try.call135 ?_; refine ⟨_, szAtom_c _ _ (by omega) (by omega) (hg.2 _ (List.getElem_mem _)), ?_⟩; rintro _ _ ⟨q1, rfl, rfl, hq1, hp1⟩) | ((with_reducible show RH _ _ _ _ _ _ _ _); refine RH.val (hK := ?_)) | (with_reducible first | refine Run.seq ?_ | refine Run.region ?_ | refine Run.block ?_ | refine Run.skip ?_ | refine Run.exit ?_ | refine Run.ret ?_) | (with_reducible show Run _ _ (.cond _ _ _) _ _ _; refine Run.condD rfl (fun h => ?_) (fun h => ?_)) | (with_reducible first | refine seqN (K := Run _ _ _ _) ?_ | refine seqE ?_ | refine seqR ?_ | refine blockN ?_ | refine blockR ?_ | refine blockE ?_))
    · refine ⟨eA, _, [], resA, .ch .nil, ?_⟩
      exact ⟨-1, rfl, rfl, by omega, by omega⟩
    · with_reducible refine seqN ?_
      have ht : sm ((List.map (fun y : Int × (List Int) => y.2.length) x).take (j + 1)) = sm ((List.map (fun y : Int × (List Int) => y.2.length) x).take j) + (x[j].2.length) := sm_take _ x j (by omega)
      exact ⟨(j + 1, q1), ⟨by (try dsimp only); omega, by (try dsimp only); omega, by (try dsimp only); omega⟩, by (try dsimp only); omega, Ent.of slA .refl⟩
    · obtain rfl : j = x.length := by omega
      rw [List.take_of_length_le (by simp)] at hs
      refine ⟨eA, _, [], resA, .ch .nil, ?_⟩
      exact ⟨q, rfl, rfl, by omega, by omega⟩

set_option maxRecDepth 10000 in
theorem toAtomS_c (x : List (Int × (List Int))) (hx : x.length + sm (List.map (fun y : Int × (List Int) => y.2.length) x) ≤ 1048576) :
    Spec Try.prog 67 [vsl 2 (fun y : Int × (List Int) => [vint y.1, vsl 1 (fun x : Int => [vint x]) y.2]) x] [] (fun r S' => ∃ s : Sv, r = vlit (vsv s) ∧ S' = [hsl (tPair tInt (tS tInt)) (vsv s) x]) := by
  refine Spec.of_run2 (n := 23) Try.func67 rfl Try.results67 Try.ntmps67 rfl ?_
  repeat' (first | (with_reducible refine RL.done ?_) | (with_reducible refine RL.wanted ?_ ?_; exact rfl) | ((with_reducible show RH _ _ _ ⟨some 7, .makeSlice _ _ _, _, _, _, _⟩ _ _ _ _); refine RH.make (α := List Value) rfl (List.map vlit) [.int .i64 0, .slice none 0 0] (fun c => .cons rfl (.cons rfl (.nil))) rfl rfl (by omega) (by omega) (by omega) ?_; rintro _ _ ⟨b7, rfl, rfl⟩) | ((with_reducible show RH _ _ _ _ _ _ _ _); refine RH.val (hK := ?_)) | (with_reducible first | refine Run.seq ?_ | refine Run.region ?_ | refine Run.block ?_) | (with_reducible refine seqN (K := Run _ _ _ _) ?_))
  refine Run.sent (SEnt.packRep (tPair tInt (tS tInt)) (z := (0, [])) (us := [.int .i64 0, .slice none 0 0]) (fun _ => ⟨[.int .i64 0], [.slice none 0 0], [], [], rfl, rfl, ⟨rfl, rfl⟩, .slice none 0 0, rfl, .inl ⟨rfl, rfl, rfl⟩⟩) rfl rfl (Nat.le_refl _)) ?_
  refine Run.loop (α := Nat) (fun j => [(0, vsl 2 (fun y : Int × (List Int) => [vint y.1, vsl 1 (fun x : Int => [vint x]) y.2]) x), (3, vlit (vsv (some ⟨b7, 0, none⟩, x.length, x.length))), (4, vint (j : Int))]) (fun j => [hsl (tPair tInt (tS tInt)) (vsv (some ⟨b7, 0, none⟩, x.length, x.length)) (x.take j ++ List.replicate (x.length - j) (0, []))]) (fun j => j ≤ x.length) (fun j => x.length - j) 0 (by simp) (Ent.of slA (.cons .head (by simp) .nil)) ?_
  intro j hj
  have hl : (x.take j ++ List.replicate (x.length - j) (0, [])).length = x.length := by simp; omega
  rcases Nat.lt_or_eq_of_le hj with h9 | rfl
  · have hs : x[j].2.length ≤ sm (List.map (fun y : Int × (List Int) => y.2.length) x) := sm_mem (fun y : Int × (List Int) => y.2.length) x _ (List.getElem_mem h9)
    repeat' (first | (with_reducible first | refine RL.done ?_ | refine RL.app1 ?_) | (with_reducible refine RL.wanted ?_ ?_; exact rfl) | ((with_reducible show RH _ _ _ ⟨_, .call ⟨.value (.func 141), _, _⟩, _, _, _, _⟩ _ _ _ _); refine RH.cP Try.call141 ?_; refine ⟨_, toAtom_c (x[j]) (by omega), ?_⟩; rintro _ _ ⟨s, rfl, rfl⟩) | ((with_reducible show RH _ _ _ _ _ _ _ _); first | refine RH.val (hK := ?_) | refine RH.upd (hK := ?_)) | (with_reducible first | refine Run.seq ?_ | refine Run.region ?_ | refine Run.block ?_ | refine Run.skip ?_ | refine Run.exit ?_ | refine Run.ret ?_) | (with_reducible show Run _ _ (.cond _ _ _) _ _ _; refine Run.condD rfl (fun h => ?_) (fun h => ?_)) | (with_reducible first | refine seqN (K := Run _ _ _ _) ?_ | refine seqE ?_ | refine blockN ?_ | refine blockE ?_))
    · with_reducible refine seqN ?_
      exact ⟨j + 1, by omega, by omega, Ent.of slA (.cons .head (congrArg (hsl (tPair tInt (tS tInt)) (vsv (some ⟨b7, 0, none⟩, x.length, x.length))) (cp_set x (0, []) j h9)) .nil)⟩
    · omega
  · repeat' (first | (with_reducible refine RL.done ?_) | (with_reducible refine RL.wanted ?_ ?_; exact rfl) | ((with_reducible show RH _ _ _ _ _ _ _ _); refine RH.val (hK := ?_)) | (with_reducible first | refine Run.seq ?_ | refine Run.region ?_ | refine Run.block ?_ | refine Run.skip ?_ | refine Run.exit ?_ | refine Run.ret ?_) | (with_reducible show Run _ _ (.cond _ _ _) _ _ _; refine Run.condD rfl (fun h => ?_) (fun h => ?_)) | (with_reducible first | refine seqN (K := Run _ _ _ _) ?_ | refine seqE ?_ | refine blockE ?_))
    · omega
    · refine ⟨eA, _, [hsl (tPair tInt (tS tInt)) (vsv (some ⟨b7, 0, none⟩, x.length, x.length)) x], resA, ?_, ?_⟩
      · exact SEnt.ch (.cons .head (by simp) .nil)
      · exact ⟨(some ⟨b7, 0, none⟩, x.length, x.length), rfl, rfl⟩

set_option maxRecDepth 10000 in
theorem eqAtomS_g (x y : List (Int × (List Int))) (hx : x.length + sm (List.map (fun y : Int × (List Int) => y.2.length) x) ≤ 4611686018427387904) :
    Spec Try.prog 71 [vsl 2 (fun y : Int × (List Int) => [vint y.1, vsl 1 (fun x : Int => [vint x]) y.2]) x, vsl 2 (fun y : Int × (List Int) => [vint y.1, vsl 1 (fun x : Int => [vint x]) y.2]) y] [] (fun r S' => r = vbool (decide (x = y)) ∧ S' = []) := by
  refine Spec.of_run2 (n := 27) Try.func71 rfl Try.results71 Try.ntmps71 rfl ?_
  repeat' (first | (with_reducible refine RL.done ?_) | (with_reducible refine RL.wanted ?_ ?_; exact rfl) | ((with_reducible show RH _ _ _ _ _ _ _ _); refine RH.val (hK := ?_)) | (with_reducible first | refine Run.seq ?_ | refine Run.region ?_ | refine Run.block ?_ | refine Run.skip ?_ | refine Run.ret ?_) | (with_reducible show Run _ _ (.cond _ _ _) _ _ _; refine Run.condD rfl (fun h => ?_) (fun h => ?_)) | (with_reducible first | refine seqN (K := Run _ _ _ _) ?_ | refine seqR ?_))
  · refine ⟨eA, _, [], resA, .ch .nil, ?_⟩
    exact ⟨congrArg vbool (decide_eq_false (fun e => by subst e; omega)).symm, rfl⟩
  · refine Run.loop (α := Nat) (fun j => [(0, vsl 2 (fun y : Int × (List Int) => [vint y.1, vsl 1 (fun x : Int => [vint x]) y.2]) x), (1, vsl 2 (fun y : Int × (List Int) => [vint y.1, vsl 1 (fun x : Int => [vint x]) y.2]) y), (5, vint (j : Int))]) (fun _ => []) (fun j => j ≤ x.length ∧ x.take j = y.take j) (fun j => x.length - j) 0 (by simp) (Ent.of slA .refl) ?_
    rintro j ⟨hj, ht⟩
    rcases Nat.lt_or_eq_of_le hj with h9 | rfl
    · have hs : x[j].2.length ≤ sm (List.map (fun y : Int × (List Int) => y.2.length) x) := sm_mem (fun y : Int × (List Int) => y.2.length) x _ (List.getElem_mem h9)
      repeat' (first | (with_reducible first | refine RL.done ?_ | refine RD.app0 ?_) | (with_reducible refine RL.wanted ?_ ?_; exact rfl) | ((with_reducible show Run _ _ (.region 6 _ true) _ _ _); refine Run.regionD (fun i => false) rfl ?_; change RD _ _ _ _ _ _ 10 (dm 10 0) _ _) | ((with_reducible show RD _ _ 6 _ _ _ _ _ _ _); first | ((with_reducible show RD _ _ _ _ _ _ _ (dm 10 0) _ _); refine RD.tk 0 (dm 10 780) (dm 10 1) (hK := ?_)) | ((with_reducible show RD _ _ _ _ _ _ _ (dm 10 1) _ _); refine RD.tk 1 (dm 10 780) (dm 10 3) (hK := ?_)) | ((with_reducible show RD _ _ _ _ _ _ _ (dm 10 3) _ _); refine RD.tk 2 (dm 10 776) (dm 10 7) (hK := ?_)) | ((with_reducible show RD _ _ _ _ _ _ _ (dm 10 7) _ _); refine RD.tk 3 (dm 10 768) (dm 10 15) (hK := ?_)) | ((with_reducible show RD _ _ _ _ _ _ _ (dm 10 15) _ _); refine RD.tk 4 (dm 10 960) (dm 10 31) (hK := ?_)) | ((with_reducible show RD _ _ _ _ _ _ _ (dm 10 31) _ _); refine RD.tk 5 (dm 10 960) (dm 10 63) (hK := ?_)) | ((with_reducible show RD _ _ _ _ _ _ _ (dm 10 63) _ _); refine RD.tk 6 (dm 10 896) (dm 10 127) (hK := ?_)) | ((with_reducible show RD _ _ _ _ _ _ _ (dm 10 127) _ _); refine RD.tk 7 (dm 10 768) (dm 10 255) (hK := ?_)) | ((with_reducible show RD _ _ _ _ _ _ _ (dm 10 255) _ _); refine RD.a1 8 ?_) | ((with_reducible show RD _ _ _ _ _ _ _ (dm 10 511) _ _); refine RD.tk 9 (dm 10 0) (dm 10 1023) (hK := ?_)) | ((with_reducible show RD _ _ _ _ _ _ 0 _ _ _); refine RD.done (by kernel_rfl) ?_)) | ((with_reducible show RO _ _ 6 _ _ _ _ _ _ _ _); ((with_reducible show RO _ _ _ _ _ _ _ (dm 10 255) 8 _ _); (refine RO.cP (dm 10 511) Try.call149 ?_; refine ⟨_, eqAtom_g _ _ (by omega), ?_⟩; rintro _ _ ⟨rfl, rfl⟩))) | ((with_reducible show RH _ _ _ _ _ _ _ _); refine RH.val (hK := ?_)) | (with_reducible first | refine Run.seq ?_ | refine Run.region ?_ | refine Run.block ?_ | refine Run.skip ?_ | refine Run.exit ?_ | refine Run.ret ?_) | (with_reducible show Run _ _ (.cond _ _ _) _ _ _; first | refine Run.condD rfl (fun h => ?_) (fun h => ?_) | refine Run.condND rfl (fun h => ?_) (fun h => ?_)) | (with_reducible first | refine seqN (K := Run _ _ _ _) ?_ | refine seqE ?_ | refine seqR ?_ | refine blockN ?_ | refine blockR ?_ | refine blockE ?_))
      · refine ⟨eA, _, [], resA, .ch .nil, ?_⟩
        exact ⟨congrArg vbool (decide_eq_false (fun e => by subst e; simp_all)).symm, rfl⟩
      · with_reducible refine seqN ?_
        exact ⟨j + 1, ⟨by omega, take_succ_eq (by omega) (by omega) ht (by simp_all)⟩, by omega, Ent.of slA .refl⟩
      · omega
    · repeat' (first | (with_reducible refine RL.done ?_) | (with_reducible refine RL.wanted ?_ ?_; exact rfl) | ((with_reducible show Run _ _ (.region 6 _ true) _ _ _); refine Run.regionD (fun i => false) rfl ?_; change RD _ _ _ _ _ _ 10 (dm 10 0) _ _) | ((with_reducible show RD _ _ 6 _ _ _ _ _ _ _); first | ((with_reducible show RD _ _ _ _ _ _ _ (dm 10 0) _ _); refine RD.tk 0 (dm 10 780) (dm 10 1) (hK := ?_)) | ((with_reducible show RD _ _ _ _ _ _ _ (dm 10 1) _ _); refine RD.tk 1 (dm 10 780) (dm 10 3) (hK := ?_)) | ((with_reducible show RD _ _ _ _ _ _ _ (dm 10 3) _ _); refine RD.tk 2 (dm 10 776) (dm 10 7) (hK := ?_)) | ((with_reducible show RD _ _ _ _ _ _ _ (dm 10 7) _ _); refine RD.tk 3 (dm 10 768) (dm 10 15) (hK := ?_)) | ((with_reducible show RD _ _ _ _ _ _ _ (dm 10 15) _ _); refine RD.tk 4 (dm 10 960) (dm 10 31) (hK := ?_)) | ((with_reducible show RD _ _ _ _ _ _ _ (dm 10 31) _ _); refine RD.tk 5 (dm 10 960) (dm 10 63) (hK := ?_)) | ((with_reducible show RD _ _ _ _ _ _ _ (dm 10 63) _ _); refine RD.tk 6 (dm 10 896) (dm 10 127) (hK := ?_)) | ((with_reducible show RD _ _ _ _ _ _ _ (dm 10 127) _ _); refine RD.tk 7 (dm 10 768) (dm 10 255) (hK := ?_)) | ((with_reducible show RD _ _ _ _ _ _ _ (dm 10 255) _ _); refine RD.a1 8 ?_)) | ((with_reducible show RH _ _ _ _ _ _ _ _); refine RH.val (hK := ?_)) | (with_reducible first | refine Run.seq ?_ | refine Run.region ?_ | refine Run.block ?_ | refine Run.skip ?_ | refine Run.exit ?_ | refine Run.ret ?_) | (with_reducible show Run _ _ (.cond _ _ _) _ _ _; refine Run.condD rfl (fun h => ?_) (fun h => ?_)) | (with_reducible first | refine seqN (K := Run _ _ _ _) ?_ | refine seqE ?_ | refine blockE ?_))
      · omega
      · refine ⟨eA, _, [], resA, .ch .nil, ?_⟩
        exact ⟨congrArg vbool (decide_eq_true (eq_of_take (by omega) (by omega) ht)).symm, rfl⟩

set_option maxRecDepth 10000 in
theorem markAtomS_m (u : Value) (x : List (Int × (List Int))) (k : Int) (hk : 0 ≤ k) (hx : k + ((sm (List.map (fun y : Int × (List Int) => 1 + y.2.length) x) : Nat) : Int) ≤ 4611686018427387904) (hl : x.length ≤ 4611686018427387904) :
    Spec Try.prog 73 [vlit u, vint k] [hsl (tPair tInt (tS tInt)) u x] (fun r S' => ∃ y : List (Int × (List Int)), r = vint (k + ((sm (List.map (fun y : Int × (List Int) => 1 + y.2.length) x) : Nat) : Int)) ∧ S' = [hsl (tPair tInt (tS tInt)) u y] ∧ (List.map (fun y : Int × (List Int) => y.2.length) y) = (List.map (fun y : Int × (List Int) => y.2.length) x)) := by
  refine Spec.of_run2 (n := 27) Try.func73 rfl Try.results73 Try.ntmps73 rfl ?_
  have hl0 := hl
  repeat' (first | (with_reducible refine RL.done ?_) | (with_reducible refine RL.wanted ?_ ?_; exact rfl) | ((with_reducible show RH _ _ _ _ _ _ _ _); refine RH.val (hK := ?_)) | (with_reducible first | refine Run.seq ?_ | refine Run.region ?_ | refine Run.block ?_) | (with_reducible refine seqN (K := Run _ _ _ _) ?_))
  refine Run.loop (α := Nat × (List (Int × (List Int)))) (fun z => [(0, vlit u), (1, vint (k + (sm ((List.map (fun y : Int × (List Int) => 1 + y.2.length) x).take z.1) : Int))), (5, vint (z.1 : Int))]) (fun z => [hsl (tPair tInt (tS tInt)) u z.2]) (fun z => z.1 ≤ x.length ∧ List.map (fun y : Int × (List Int) => y.2.length) z.2 = List.map (fun y : Int × (List Int) => y.2.length) x) (fun z => x.length - z.1) (0, x) (by simp) (Ent.of (by (repeat (first | exact Sl.nil | refine Sl.cons rfl rfl ?_ | refine Sl.cons rfl (congrArg (fun z => vlit (Value.int .i64 z)) (by omega)) ?_ | refine Sl.cons rfl (by simp [sm]) ?_))) .refl) ?_
  rintro ⟨j, ys⟩ ⟨hj, hm⟩
  dsimp only at hj hm ⊢
  have hly : ys.length = x.length := by simpa using congrArg List.length hm
  have hb := sm_take_le (List.map (fun y : Int × (List Int) => 1 + y.2.length) x) (j + 1)
  rcases Nat.lt_or_eq_of_le hj with h9 | rfl
  · have hsh : (ys[j]'(by omega)).2.length = x[j].2.length := map_at (f := (fun y : Int × (List Int) => y.2.length)) hm (by omega) h9
    have hc : 1 + (ys[j]'(by omega)).2.length = 1 + x[j].2.length := by
      first
        | exact hsh
        | (simp only [Prod.mk.injEq] at hsh; omega)
        | (have h7 := congrArg sm hsh; omega)
        | omega
    have hs : sm ((List.map (fun y : Int × (List Int) => 1 + y.2.length) x).take (j + 1)) = sm ((List.map (fun y : Int × (List Int) => 1 + y.2.length) x).take j) + (1 + x[j].2.length) := sm_take _ x j h9
    repeat' (first | (with_reducible refine RL.done ?_) | (with_reducible refine RL.wanted ?_ ?_; exact rfl) | ((with_reducible show RH _ _ _ ⟨_, .load _ (.tmp 22), _, _, _, _⟩ _ _ _ _); with_reducible refine RH.focusPI (t := tInt) j _ .head (List.getElem?_set_self (by omega)) ?_; intro u1) | ((with_reducible show RH _ _ _ ⟨_, .call ⟨.value (.func 33), _, _⟩, _, _, _, _⟩ _ _ _ _); refine RH.cW Try.call33 ?_; refine ⟨_, _, _, (by repeat (first | exact Pick.nil | (apply Pick.cons; (with_reducible repeat (first | exact Rem.head | apply Rem.tail))))), markIntS_m _ _ _ (by omega) (by (try dsimp only); omega), ?_⟩; rintro _ _ ⟨y1, rfl, rfl, hy1⟩; refine RL.nm ?_) | ((with_reducible show RH _ _ _ _ _ _ _ _); first | refine RH.val (hK := ?_) | refine RH.upd (hK := ?_)) | (with_reducible first | refine Run.seq ?_ | refine Run.region ?_ | refine Run.block ?_ | refine Run.skip ?_ | refine Run.exit ?_ | refine Run.ret ?_) | (with_reducible show Run _ _ (.cond _ _ _) _ _ _; refine Run.condD rfl (fun h => ?_) (fun h => ?_)) | (with_reducible first | refine seqN (K := Run _ _ _ _) ?_ | refine seqE ?_ | refine blockN ?_ | refine blockE ?_))
    · with_reducible refine seqN ?_
      refine ⟨(j + 1, ys.set j (k + (sm ((List.map (fun y : Int × (List Int) => 1 + y.2.length) x).take j) : Int), y1)), ⟨by (try dsimp only); omega, ?_⟩, by (try dsimp only); omega, ((SEnt.unfocusPI (by first | omega | (simp only [List.length_set]; omega)))).ent.trans (Ent.of (by (try dsimp only); (repeat (first | exact Sl.nil | refine Sl.cons rfl rfl ?_ | refine Sl.cons rfl (congrArg (fun z => vlit (Value.int .i64 z)) (by omega)) ?_))) (.cons .head (by rw [List.set_set]) .nil))⟩
      dsimp only
      rw [← hm]
      exact map_set_eq (f := (fun y : Int × (List Int) => y.2.length)) ys j _ (by omega) (by (try dsimp only); exact hy1)
    · omega
  · repeat' (first | (with_reducible refine RL.done ?_) | (with_reducible refine RL.wanted ?_ ?_; exact rfl) | ((with_reducible show RH _ _ _ _ _ _ _ _); first | refine RH.val (hK := ?_) | refine RH.upd (hK := ?_)) | (with_reducible first | refine Run.seq ?_ | refine Run.region ?_ | refine Run.block ?_ | refine Run.skip ?_ | refine Run.exit ?_ | refine Run.ret ?_) | (with_reducible show Run _ _ (.cond _ _ _) _ _ _; refine Run.condD rfl (fun h => ?_) (fun h => ?_)) | (with_reducible first | refine seqN (K := Run _ _ _ _) ?_ | refine seqE ?_ | refine blockE ?_))
    · omega
    · refine ⟨eA, _, [hsl (tPair tInt (tS tInt)) u ys], resA, ?_, ?_⟩
      · exact SEnt.ch (.cons .head rfl .nil)
      · refine ⟨ys, ?_, rfl, hm⟩
        exact congrArg (fun z : Nat => vint (k + (z : Int))) (congrArg sm (List.take_of_length_le (by simp)))

end Go.Proofs.Ytejeeokjjbiadaa
