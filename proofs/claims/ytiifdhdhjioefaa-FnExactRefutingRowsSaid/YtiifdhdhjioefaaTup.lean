/- Lists in lexicographic order: spec.l3Less, l1Same, impl.compareLists, sameList. Proved for this program; conditions: lengths below 2^62. -/
import Derived.Test.YtiifdhdhjioefaaElem
import Derived.Test.YtiifdhdhjioefaaLawI
namespace Go.Proofs.Ytiifdhdhjioefaa
open Go Go.Proofs
set_option linter.unusedVariables false

/-- a is before b: at the first place where they differ -/
def less : List Int → List Int → Bool
  | x :: a, y :: b => if x = y then less a b else decide (x < y)
  | _, _ => false
def cmp : List Int → List Int → Int
  | x :: a, y :: b => if x = y then cmp a b else if x < y then -1 else 1
  | [], [] => 0
  | [], _ :: _ => -1
  | _ :: _, [] => 1

set_option maxRecDepth 10000 in
theorem l1Same_c (xs ys : List Int) (hx : xs.length ≤ 4611686018427387904) :
    Spec Try.prog 150 [vsl 1 (fun x : Int => [vint x]) xs, vsl 1 (fun x : Int => [vint x]) ys] [] (fun r S' => r = vbool (decide (xs = ys)) ∧ S' = []) := by
  refine Spec.of_run2 (n := 26) Try.func150 rfl Try.results150 Try.ntmps150 rfl ?_
  repeat' (first | (with_reducible refine RL.done ?_) | (with_reducible refine RL.wanted ?_ ?_; exact rfl) | ((with_reducible show RH _ _ _ _ _ _ _ _); refine RH.val (hK := ?_)) | (with_reducible first | refine Run.seq ?_ | refine Run.region ?_ | refine Run.block ?_ | refine Run.skip ?_ | refine Run.ret ?_) | (with_reducible show Run _ _ (.cond _ _ _) _ _ _; refine Run.condD rfl (fun h => ?_) (fun h => ?_)) | (with_reducible first | refine seqN (K := Run _ _ _ _) ?_ | refine seqR ?_))
  · refine ⟨eA, _, [], resA, .ch .nil, ?_⟩
    exact ⟨congrArg vbool (decide_eq_false (fun e => by subst e; omega)).symm, rfl⟩
  · refine Run.loop (α := Nat) (fun j => [(0, vsl 1 (fun x : Int => [vint x]) xs), (1, vsl 1 (fun x : Int => [vint x]) ys), (5, vint (j : Int))]) (fun _ => []) (fun j => j ≤ xs.length ∧ xs.take j = ys.take j) (fun j => xs.length - j) 0 (by simp) (Ent.of slA .refl) ?_
    rintro j ⟨hj, ht⟩
    repeat' (first | (with_reducible refine RL.done ?_) | (with_reducible refine RL.wanted ?_ ?_; exact rfl) | ((with_reducible show Run _ _ (.region 6 _ true) _ _ _); refine Run.regionD (fun i => false) rfl ?_; change RD _ _ _ _ _ _ 9 (dm 9 0) _ _) | ((with_reducible show RD _ _ 6 _ _ _ _ _ _ _); first | ((with_reducible show RD _ _ _ _ _ _ _ (dm 9 0) _ _); refine RD.tk 0 (dm 9 268) (dm 9 1) (hK := ?_)) | ((with_reducible show RD _ _ _ _ _ _ _ (dm 9 1) _ _); refine RD.tk 1 (dm 9 268) (dm 9 3) (hK := ?_)) | ((with_reducible show RD _ _ _ _ _ _ _ (dm 9 3) _ _); refine RD.tk 2 (dm 9 264) (dm 9 7) (hK := ?_)) | ((with_reducible show RD _ _ _ _ _ _ _ (dm 9 7) _ _); refine RD.tk 3 (dm 9 256) (dm 9 15) (hK := ?_)) | ((with_reducible show RD _ _ _ _ _ _ _ (dm 9 15) _ _); refine RD.tk 4 (dm 9 448) (dm 9 31) (hK := ?_)) | ((with_reducible show RD _ _ _ _ _ _ _ (dm 9 31) _ _); refine RD.tk 5 (dm 9 448) (dm 9 63) (hK := ?_)) | ((with_reducible show RD _ _ _ _ _ _ _ (dm 9 63) _ _); refine RD.tk 6 (dm 9 384) (dm 9 127) (hK := ?_)) | ((with_reducible show RD _ _ _ _ _ _ _ (dm 9 127) _ _); refine RD.tk 7 (dm 9 256) (dm 9 255) (hK := ?_)) | ((with_reducible show RD _ _ _ _ _ _ _ (dm 9 255) _ _); refine RD.tk 8 (dm 9 0) (dm 9 511) (hK := ?_)) | ((with_reducible show RD _ _ _ _ _ _ 0 _ _ _); refine RD.done (by kernel_rfl) ?_)) | ((with_reducible show RH _ _ _ _ _ _ _ _); refine RH.val (hK := ?_)) | (with_reducible first | refine Run.seq ?_ | refine Run.region ?_ | refine Run.block ?_ | refine Run.skip ?_ | refine Run.exit ?_ | refine Run.ret ?_) | (with_reducible show Run _ _ (.cond _ _ _) _ _ _; refine Run.condD rfl (fun h => ?_) (fun h => ?_)) | (with_reducible first | refine seqN (K := Run _ _ _ _) ?_ | refine seqE ?_ | refine seqR ?_ | refine blockN ?_ | refine blockR ?_ | refine blockE ?_))
    · refine ⟨eA, _, [], resA, .ch .nil, ?_⟩
      exact ⟨congrArg vbool (decide_eq_false (fun e => by subst e; simp_all)).symm, rfl⟩
    · with_reducible refine seqN ?_
      exact ⟨j + 1, ⟨by omega, take_succ_eq (by omega) (by omega) ht (by simp_all)⟩, by omega, Ent.of slA .refl⟩
    · refine ⟨eA, _, [], resA, .ch .nil, ?_⟩
      exact ⟨congrArg vbool (decide_eq_true (eq_of_take (by omega) (by omega) ht)).symm, rfl⟩
set_option maxRecDepth 10000 in
theorem sameList_c (xs ys : List Int) (hx : xs.length ≤ 4611686018427387904) :
    Spec Try.prog 80 [vsl 1 (fun x : Int => [vint x]) xs, vsl 1 (fun x : Int => [vint x]) ys] [] (fun r S' => r = vbool (decide (xs = ys)) ∧ S' = []) := by
  refine Spec.of_run2 (n := 26) Try.func80 rfl Try.results80 Try.ntmps80 rfl ?_
  repeat' (first | (with_reducible refine RL.done ?_) | (with_reducible refine RL.wanted ?_ ?_; exact rfl) | ((with_reducible show RH _ _ _ _ _ _ _ _); refine RH.val (hK := ?_)) | (with_reducible first | refine Run.seq ?_ | refine Run.region ?_ | refine Run.block ?_ | refine Run.skip ?_ | refine Run.ret ?_) | (with_reducible show Run _ _ (.cond _ _ _) _ _ _; refine Run.condD rfl (fun h => ?_) (fun h => ?_)) | (with_reducible first | refine seqN (K := Run _ _ _ _) ?_ | refine seqR ?_))
  · refine ⟨eA, _, [], resA, .ch .nil, ?_⟩
    exact ⟨congrArg vbool (decide_eq_false (fun e => by subst e; omega)).symm, rfl⟩
  · refine Run.loop (α := Nat) (fun j => [(1, vsl 1 (fun x : Int => [vint x]) ys), (12, vsl 1 (fun x : Int => [vint x]) xs), (13, vint (xs.length : Int)), (14, vint (j : Int))]) (fun _ => []) (fun j => j ≤ xs.length ∧ xs.take j = ys.take j) (fun j => xs.length - j) 0 (by simp) (Ent.of slA .refl) ?_
    rintro j ⟨hj, ht⟩
    repeat' (first | (with_reducible refine RL.done ?_) | (with_reducible refine RL.wanted ?_ ?_; exact rfl) | ((with_reducible show RH _ _ _ _ _ _ _ _); refine RH.val (hK := ?_)) | (with_reducible first | refine Run.seq ?_ | refine Run.region ?_ | refine Run.block ?_ | refine Run.skip ?_ | refine Run.exit ?_ | refine Run.ret ?_) | (with_reducible show Run _ _ (.cond _ _ _) _ _ _; refine Run.condD rfl (fun h => ?_) (fun h => ?_)) | (with_reducible first | refine seqN (K := Run _ _ _ _) ?_ | refine seqE ?_ | refine seqR ?_ | refine blockN ?_ | refine blockR ?_ | refine blockE ?_))
    · refine ⟨eA, _, [], resA, .ch .nil, ?_⟩
      exact ⟨congrArg vbool (decide_eq_false (fun e => by subst e; simp_all)).symm, rfl⟩
    · with_reducible refine seqN ?_
      exact ⟨j + 1, ⟨by omega, take_succ_eq (by omega) (by omega) ht (by simp_all)⟩, by omega, Ent.of slA .refl⟩
    · refine ⟨eA, _, [], resA, .ch .nil, ?_⟩
      exact ⟨congrArg vbool (decide_eq_true (eq_of_take (by omega) (by omega) ht)).symm, rfl⟩
end Go.Proofs.Ytiifdhdhjioefaa
