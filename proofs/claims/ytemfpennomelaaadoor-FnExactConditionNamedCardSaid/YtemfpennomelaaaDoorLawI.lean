/- The laws' helpers on lists of numbers: eqIntS, markIntS, heldIntS. Proved for this program; conditions: lengths and marks below 2^62. -/
import Derived.Test.YtemfpennomelaaaDoorTypes
namespace Go.Proofs.YtemfpennomelaaaDoor
open Go Go.Proofs

theorem take_succ_eq {α : Type} {xs ys : List α} {j : Nat} (h1 : j < xs.length) (h2 : j < ys.length) (h : xs.take j = ys.take j) (he : xs[j] = ys[j]) : xs.take (j + 1) = ys.take (j + 1) := by
  rw [List.take_add_one, List.take_add_one, h, List.getElem?_eq_getElem h1, List.getElem?_eq_getElem h2, he]
theorem eq_of_take {α : Type} {xs ys : List α} {j : Nat} (h1 : xs.length ≤ j) (h2 : ys.length ≤ j) (h : xs.take j = ys.take j) : xs = ys := by
  rwa [List.take_of_length_le h1, List.take_of_length_le h2] at h

set_option maxRecDepth 10000 in
theorem eqIntS_c (xs ys : List Int) (hx : xs.length ≤ 4611686018427387904) :
    Spec Tryd.prog 49 [vsl 1 (fun x : Int => [vint x]) xs, vsl 1 (fun x : Int => [vint x]) ys] [] (fun r S' => r = vbool (decide (xs = ys)) ∧ S' = []) := by
  refine Spec.of_run2 (n := 26) Tryd.func49 rfl Tryd.results49 Tryd.ntmps49 rfl ?_
  repeat' (first | (with_reducible first | refine RL.done ?_ | refine RL.app0 ?_ | refine RL.app1 ?_ | refine RL.app2 ?_ | refine RL.app3 ?_ | refine RL.app4 ?_ | refine RD.app0 ?_ | refine RD.app1 ?_ | refine RD.app2 ?_) | (with_reducible refine RL.wanted ?_ ?_; exact rfl) | ((with_reducible show Run _ _ (.region 6 _ true) _ _ _); refine Run.regionD (fun i => false) rfl ?_; change RD _ _ _ _ _ _ 9 (dm 9 0) _ _) | ((with_reducible show RD _ _ 6 _ _ _ _ _ _ _); first | ((with_reducible show RD _ _ _ _ _ _ _ (dm 9 0) _ _); refine RD.tk 0 (dm 9 268) (dm 9 1) (hK := ?_)) | ((with_reducible show RD _ _ _ _ _ _ _ (dm 9 1) _ _); refine RD.tk 1 (dm 9 268) (dm 9 3) (hK := ?_)) | ((with_reducible show RD _ _ _ _ _ _ _ (dm 9 3) _ _); refine RD.tk 2 (dm 9 264) (dm 9 7) (hK := ?_)) | ((with_reducible show RD _ _ _ _ _ _ _ (dm 9 7) _ _); first | refine RD.tk 3 (dm 9 256) (dm 9 15) (hK := ?_) | (refine RD.lr 3 (dm 9 256) (dm 9 15) (h := ?_); intro u)) | ((with_reducible show RD _ _ _ _ _ _ _ (dm 9 15) _ _); refine RD.tk 4 (dm 9 448) (dm 9 31) (hK := ?_)) | ((with_reducible show RD _ _ _ _ _ _ _ (dm 9 31) _ _); refine RD.tk 5 (dm 9 448) (dm 9 63) (hK := ?_)) | ((with_reducible show RD _ _ _ _ _ _ _ (dm 9 63) _ _); refine RD.tk 6 (dm 9 384) (dm 9 127) (hK := ?_)) | ((with_reducible show RD _ _ _ _ _ _ _ (dm 9 127) _ _); first | refine RD.tk 7 (dm 9 256) (dm 9 255) (hK := ?_) | (refine RD.lr 7 (dm 9 256) (dm 9 255) (h := ?_); intro u)) | ((with_reducible show RD _ _ _ _ _ _ _ (dm 9 255) _ _); refine RD.tk 8 (dm 9 0) (dm 9 511) (hK := ?_)) | ((with_reducible show RD _ _ _ _ _ _ 0 _ _ _); refine RD.done (by kernel_rfl) ?_)) | ((with_reducible show RH _ _ _ _ _ _ _ _); first | refine RH.val (hK := ?_) | refine RH.upd (hK := ?_) | (refine RH.lr (h := ?_); intro u)) | (with_reducible first | refine Run.seq ?_ | refine Run.region ?_ | refine Run.block ?_ | refine Run.skip ?_ | refine Run.exit ?_ | refine Run.ret ?_) | (with_reducible show Run _ _ (.cond _ _ _) _ _ _; first | refine Run.condT rfl ?_ | refine Run.condF rfl ?_ | refine Run.condD rfl (fun h => ?_) (fun h => ?_) | refine Run.condND rfl (fun h => ?_) (fun h => ?_) | refine Run.condNB rfl (fun h => ?_) (fun h => ?_) | refine Run.cond rfl (fun h => ?_) (fun h => ?_)) | (with_reducible first | refine seqN (K := Run _ _ _ _) ?_ | refine seqE ?_ | refine seqR ?_ | refine blockN ?_ | refine blockR ?_ | refine blockE ?_) | (with_reducible refine blockX ?_ ?_; exact rfl))
  · refine ⟨eA, _, [], resA, .ch .nil, ?_⟩
    exact ⟨congrArg vbool (decide_eq_false (fun e => by subst e; omega)).symm, rfl⟩
  · refine Run.loop (α := Nat) (fun j => [(0, vsl 1 (fun x : Int => [vint x]) xs), (1, vsl 1 (fun x : Int => [vint x]) ys), (5, vint (j : Int))]) (fun _ => []) (fun j => j ≤ xs.length ∧ xs.take j = ys.take j) (fun j => xs.length - j) 0 (by simp) (Ent.of slA .refl) ?_
    rintro j ⟨hj, ht⟩
    repeat' (first | (with_reducible first | refine RL.done ?_ | refine RL.app0 ?_ | refine RL.app1 ?_ | refine RL.app2 ?_ | refine RL.app3 ?_ | refine RL.app4 ?_ | refine RD.app0 ?_ | refine RD.app1 ?_ | refine RD.app2 ?_) | (with_reducible refine RL.wanted ?_ ?_; exact rfl) | ((with_reducible show Run _ _ (.region 6 _ true) _ _ _); refine Run.regionD (fun i => false) rfl ?_; change RD _ _ _ _ _ _ 9 (dm 9 0) _ _) | ((with_reducible show RD _ _ 6 _ _ _ _ _ _ _); first | ((with_reducible show RD _ _ _ _ _ _ _ (dm 9 0) _ _); refine RD.tk 0 (dm 9 268) (dm 9 1) (hK := ?_)) | ((with_reducible show RD _ _ _ _ _ _ _ (dm 9 1) _ _); refine RD.tk 1 (dm 9 268) (dm 9 3) (hK := ?_)) | ((with_reducible show RD _ _ _ _ _ _ _ (dm 9 3) _ _); refine RD.tk 2 (dm 9 264) (dm 9 7) (hK := ?_)) | ((with_reducible show RD _ _ _ _ _ _ _ (dm 9 7) _ _); first | refine RD.tk 3 (dm 9 256) (dm 9 15) (hK := ?_) | (refine RD.lr 3 (dm 9 256) (dm 9 15) (h := ?_); intro u)) | ((with_reducible show RD _ _ _ _ _ _ _ (dm 9 15) _ _); refine RD.tk 4 (dm 9 448) (dm 9 31) (hK := ?_)) | ((with_reducible show RD _ _ _ _ _ _ _ (dm 9 31) _ _); refine RD.tk 5 (dm 9 448) (dm 9 63) (hK := ?_)) | ((with_reducible show RD _ _ _ _ _ _ _ (dm 9 63) _ _); refine RD.tk 6 (dm 9 384) (dm 9 127) (hK := ?_)) | ((with_reducible show RD _ _ _ _ _ _ _ (dm 9 127) _ _); first | refine RD.tk 7 (dm 9 256) (dm 9 255) (hK := ?_) | (refine RD.lr 7 (dm 9 256) (dm 9 255) (h := ?_); intro u)) | ((with_reducible show RD _ _ _ _ _ _ _ (dm 9 255) _ _); refine RD.tk 8 (dm 9 0) (dm 9 511) (hK := ?_)) | ((with_reducible show RD _ _ _ _ _ _ 0 _ _ _); refine RD.done (by kernel_rfl) ?_)) | ((with_reducible show RH _ _ _ _ _ _ _ _); first | refine RH.val (hK := ?_) | refine RH.upd (hK := ?_) | (refine RH.lr (h := ?_); intro u)) | (with_reducible first | refine Run.seq ?_ | refine Run.region ?_ | refine Run.block ?_ | refine Run.skip ?_ | refine Run.exit ?_ | refine Run.ret ?_) | (with_reducible show Run _ _ (.cond _ _ _) _ _ _; first | refine Run.condT rfl ?_ | refine Run.condF rfl ?_ | refine Run.condD rfl (fun h => ?_) (fun h => ?_) | refine Run.condND rfl (fun h => ?_) (fun h => ?_) | refine Run.condNB rfl (fun h => ?_) (fun h => ?_) | refine Run.cond rfl (fun h => ?_) (fun h => ?_)) | (with_reducible first | refine seqN (K := Run _ _ _ _) ?_ | refine seqE ?_ | refine seqR ?_ | refine blockN ?_ | refine blockR ?_ | refine blockE ?_) | (with_reducible refine blockX ?_ ?_; exact rfl))
    · refine ⟨eA, _, [], resA, .ch .nil, ?_⟩
      exact ⟨congrArg vbool (decide_eq_false (fun e => by subst e; simp_all)).symm, rfl⟩
    · with_reducible refine seqN ?_
      exact ⟨j + 1, ⟨by omega, take_succ_eq (by omega) (by omega) ht (by simp_all)⟩, by omega, Ent.of slA .refl⟩
    · refine ⟨eA, _, [], resA, .ch .nil, ?_⟩
      exact ⟨congrArg vbool (decide_eq_true (eq_of_take (by omega) (by omega) ht)).symm, rfl⟩

/-- n marks from k on -/
def mkI (k : Int) (n : Nat) : List Int := (List.range n).map fun (j : Nat) => k + (j : Int)
theorem mkI_length (k : Int) (n : Nat) : (mkI k n).length = n := by simp [mkI]
theorem mkI_get (k : Int) (n j : Nat) (h : j < (mkI k n).length) : (mkI k n)[j] = k + j := by simp [mkI]
theorem mkI_set (k : Int) (xs : List Int) (j : Nat) (h : j < xs.length) : (mkI k j ++ xs.drop j).set j (k + j) = mkI k (j + 1) ++ xs.drop (j + 1) := by
  rw [List.set_append_right _ _ (by simp [mkI_length]), mkI_length, Nat.sub_self, List.drop_eq_getElem_cons h, List.set_cons_zero]
  simp [mkI, List.range_succ]

set_option maxRecDepth 10000 in
theorem markIntS_c (v : Value) (xs : List Int) (k : Int) (hk : 0 ≤ k) (hx : k + xs.length ≤ 4611686018427387904) :
    Spec Tryd.prog 34 [vlit v, vint k] [hsl tInt v xs] (fun r S' => r = vint (k + xs.length) ∧ S' = [hsl tInt v (mkI k xs.length)]) := by
  refine Spec.of_run2 (n := 19) Tryd.func34 rfl Tryd.results34 Tryd.ntmps34 rfl ?_
  repeat' (first | (with_reducible first | refine RL.done ?_ | refine RL.app0 ?_ | refine RL.app1 ?_ | refine RL.app2 ?_ | refine RL.app3 ?_ | refine RL.app4 ?_) | (with_reducible refine RL.wanted ?_ ?_; exact rfl) | ((with_reducible show RH _ _ _ _ _ _ _ _); first | refine RH.val (hK := ?_) | refine RH.upd (hK := ?_) | (refine RH.lr (h := ?_); intro u)) | (with_reducible first | refine Run.seq ?_ | refine Run.region ?_ | refine Run.block ?_ | refine Run.skip ?_ | refine Run.exit ?_ | refine Run.ret ?_) | (with_reducible show Run _ _ (.cond _ _ _) _ _ _; first | refine Run.condT rfl ?_ | refine Run.condF rfl ?_ | refine Run.condD rfl (fun h => ?_) (fun h => ?_) | refine Run.condND rfl (fun h => ?_) (fun h => ?_) | refine Run.condNB rfl (fun h => ?_) (fun h => ?_) | refine Run.cond rfl (fun h => ?_) (fun h => ?_)) | (with_reducible first | refine seqN (K := Run _ _ _ _) ?_ | refine seqE ?_ | refine seqR ?_ | refine blockN ?_ | refine blockR ?_ | refine blockE ?_) | (with_reducible refine blockX ?_ ?_; exact rfl))
  refine Run.loop (α := Nat) (fun j => [(0, vlit v), (1, vint (k + j)), (5, vint (j : Int))]) (fun j => [hsl tInt v (mkI k j ++ xs.drop j)]) (fun j => j ≤ xs.length) (fun j => xs.length - j) 0 (by simp) (Ent.of slA (.cons .head (by simp [mkI]) .nil)) ?_
  intro j hj
  have hl : (mkI k j ++ xs.drop j).length = xs.length := by simp [mkI_length]; omega
  repeat' (first | (with_reducible first | refine RL.done ?_ | refine RL.app0 ?_ | refine RL.app1 ?_ | refine RL.app2 ?_ | refine RL.app3 ?_ | refine RL.app4 ?_) | (with_reducible refine RL.wanted ?_ ?_; exact rfl) | ((with_reducible show RH _ _ _ _ _ _ _ _); first | refine RH.val (hK := ?_) | refine RH.upd (hK := ?_) | (refine RH.lr (h := ?_); intro u)) | (with_reducible first | refine Run.seq ?_ | refine Run.region ?_ | refine Run.block ?_ | refine Run.skip ?_ | refine Run.exit ?_ | refine Run.ret ?_) | (with_reducible show Run _ _ (.cond _ _ _) _ _ _; first | refine Run.condT rfl ?_ | refine Run.condF rfl ?_ | refine Run.condD rfl (fun h => ?_) (fun h => ?_) | refine Run.condND rfl (fun h => ?_) (fun h => ?_) | refine Run.condNB rfl (fun h => ?_) (fun h => ?_) | refine Run.cond rfl (fun h => ?_) (fun h => ?_)) | (with_reducible first | refine seqN (K := Run _ _ _ _) ?_ | refine seqE ?_ | refine seqR ?_ | refine blockN ?_ | refine blockR ?_ | refine blockE ?_) | (with_reducible refine blockX ?_ ?_; exact rfl))
  · with_reducible refine seqN ?_
    exact ⟨j + 1, by omega, by omega, Ent.of slA (.cons .head (congrArg (hsl tInt v) (mkI_set k xs j (by omega))) .nil)⟩
  · obtain rfl : j = xs.length := by omega
    refine ⟨eA, _, [hsl tInt v (mkI k xs.length)], resA, ?_, ?_⟩
    · exact SEnt.ch (.cons .head (by simp) .nil)
    · exact ⟨rfl, rfl⟩

set_option maxRecDepth 10000 in
theorem heldIntS_c (n : Nat) (k : Int) (hk : 0 ≤ k) (hx : k + n ≤ 4611686018427387904) :
    Spec Tryd.prog 35 [vsl 1 (fun x : Int => [vint x]) (mkI k n), vint k] [] (fun r S' => r = vint (k + n) ∧ S' = []) := by
  refine Spec.of_run2 (n := 21) Tryd.func35 rfl Tryd.results35 Tryd.ntmps35 rfl ?_
  repeat' (first | (with_reducible first | refine RL.done ?_ | refine RL.app0 ?_ | refine RL.app1 ?_ | refine RL.app2 ?_ | refine RL.app3 ?_ | refine RL.app4 ?_) | (with_reducible refine RL.wanted ?_ ?_; exact rfl) | ((with_reducible show RH _ _ _ _ _ _ _ _); first | refine RH.val (hK := ?_) | refine RH.upd (hK := ?_) | (refine RH.lr (h := ?_); intro u)) | (with_reducible first | refine Run.seq ?_ | refine Run.region ?_ | refine Run.block ?_ | refine Run.skip ?_ | refine Run.exit ?_ | refine Run.ret ?_) | (with_reducible show Run _ _ (.cond _ _ _) _ _ _; first | refine Run.condT rfl ?_ | refine Run.condF rfl ?_ | refine Run.condD rfl (fun h => ?_) (fun h => ?_) | refine Run.condND rfl (fun h => ?_) (fun h => ?_) | refine Run.condNB rfl (fun h => ?_) (fun h => ?_) | refine Run.cond rfl (fun h => ?_) (fun h => ?_)) | (with_reducible first | refine seqN (K := Run _ _ _ _) ?_ | refine seqE ?_ | refine seqR ?_ | refine blockN ?_ | refine blockR ?_ | refine blockE ?_) | (with_reducible refine blockX ?_ ?_; exact rfl))
  have hl := mkI_length k n
  refine Run.loop (α := Nat) (fun j => [(0, vsl 1 (fun x : Int => [vint x]) (mkI k n)), (1, vint (k + j)), (5, vint (j : Int))]) (fun j => []) (fun j => j ≤ n) (fun j => n - j) 0 (by simp) (Ent.of slA .refl) ?_
  intro j hj
  repeat' (first | (with_reducible first | refine RL.done ?_ | refine RL.app0 ?_ | refine RL.app1 ?_ | refine RL.app2 ?_ | refine RL.app3 ?_ | refine RL.app4 ?_) | (with_reducible refine RL.wanted ?_ ?_; exact rfl) | ((with_reducible show RH _ _ _ _ _ _ _ _); first | refine RH.val (hK := ?_) | refine RH.upd (hK := ?_) | (refine RH.lr (h := ?_); intro u)) | (with_reducible first | refine Run.seq ?_ | refine Run.region ?_ | refine Run.block ?_ | refine Run.skip ?_ | refine Run.exit ?_ | refine Run.ret ?_) | (with_reducible show Run _ _ (.cond _ _ _) _ _ _; first | refine Run.condT rfl ?_ | refine Run.condF rfl ?_ | refine Run.condD rfl (fun h => ?_) (fun h => ?_) | refine Run.condND rfl (fun h => ?_) (fun h => ?_) | refine Run.condNB rfl (fun h => ?_) (fun h => ?_) | refine Run.cond rfl (fun h => ?_) (fun h => ?_)) | (with_reducible first | refine seqN (K := Run _ _ _ _) ?_ | refine seqE ?_ | refine seqR ?_ | refine blockN ?_ | refine blockR ?_ | refine blockE ?_) | (with_reducible refine blockX ?_ ?_; exact rfl))
  · exfalso; simp_all [mkI_get]
  · with_reducible refine seqN ?_
    exact ⟨j + 1, by omega, by omega, Ent.of slA .refl⟩
  · obtain rfl : j = n := by omega
    refine ⟨eA, _, [], resA, .ch .nil, ?_⟩
    exact ⟨rfl, rfl⟩
theorem heldIntS_e (xs : List Int) (n : Nat) (k : Int) (he : xs = mkI k n) (hk : 0 ≤ k) (hx : k + n ≤ 4611686018427387904) :
    Spec Tryd.prog 35 [vsl 1 (fun x : Int => [vint x]) xs, vint k] [] (fun r S' => r = vint (k + n) ∧ S' = []) := he ▸ heldIntS_c n k hk hx
end Go.Proofs.YtemfpennomelaaaDoor
