/- Partitions and their relations: spec.l6Partition, l13OfPartition, RelationOfPartition and impl's. Proved for this program; conditions: lists up to 8 for the relation of a partition; none for RelationOfPartition but the length up to 2^20. -/
import Derived.Test.YtiifdhdhjioefaaRelC
import Derived.Test.YtiifdhdhjioefaaLawI
namespace Go.Proofs.Ytiifdhdhjioefaa
open Go Go.Proofs

theorem getD_get (p : List Int) (j : Nat) (h : j < p.length) : p.getD j 0 = p[j] := by simp [List.getD, h]

/-- the pairs of x with y below m in one class, and those of all x below l -/
def pairsTo (p : List Int) (x m : Nat) : List (List Int) := ((List.range m).filter fun y => decide (p.getD x 0 = p.getD y 0)).map fun (y : Nat) => [(x : Int), (y : Int)]
def pairsAll (p : List Int) (l : Nat) : List (List Int) := (List.range l).flatMap fun x => pairsTo p x p.length
theorem pairsTo_yes (p : List Int) (x m : Nat) (h : p.getD x 0 = p.getD m 0) : pairsTo p x (m + 1) = pairsTo p x m ++ [[(x : Int), (m : Int)]] := by
  unfold pairsTo; rw [List.range_succ, List.filter_append, List.map_append, List.filter_cons_of_pos (p := fun y => decide (p.getD x 0 = p.getD y 0)) (a := m) (decide_eq_true h)]; rfl
theorem pairsTo_no (p : List Int) (x m : Nat) (h : p.getD x 0 ≠ p.getD m 0) : pairsTo p x (m + 1) = pairsTo p x m := by
  unfold pairsTo; rw [List.range_succ, List.filter_append, List.map_append, List.filter_cons_of_neg (p := fun y => decide (p.getD x 0 = p.getD y 0)) (a := m) (fun e => h (of_decide_eq_true e))]; simp
theorem pairsAll_succ (p : List Int) (l : Nat) : pairsAll p (l + 1) = pairsAll p l ++ pairsTo p l p.length := by simp [pairsAll, List.range_succ]
theorem pairsTo_le (p : List Int) (x m : Nat) : (pairsTo p x m).length ≤ m := by
  unfold pairsTo; rw [List.length_map]; exact Nat.le_trans (List.length_filter_le _ _) (by simp)
theorem pairsAll_le (p : List Int) (l : Nat) : (pairsAll p l).length ≤ l * p.length := by
  induction l with
  | zero => simp [pairsAll]
  | succ l ih => rw [pairsAll_succ, List.length_append, Nat.succ_mul]; have := pairsTo_le p l p.length; omega
theorem pairsAll_small (p : List Int) (l : Nat) (hl : l ≤ p.length) (h8 : p.length ≤ 8) : (pairsAll p l).length ≤ 64 :=
  Nat.le_trans (pairsAll_le p l) (Nat.le_trans (Nat.mul_le_mul (Nat.le_trans hl h8) h8) (by decide))

set_option maxRecDepth 10000 in
theorem l13OfPartition_c (p : List Int) (hp : p.length ≤ 8) :
    Spec Try.prog 132 [vsl 1 (fun x : Int => [vint x]) p] [] (fun r S' => ∃ s : Sv, r = vagg [vint 2, vlit (vsv s)] ∧ S' = [hsl (tS tInt) (vsv s) (pairsAll p p.length)]) := by
  refine Spec.of_run2 (n := 38) Try.func132 rfl Try.results132 Try.ntmps132 rfl ?_
  repeat' (first | (with_reducible refine RL.done ?_) | (with_reducible refine RL.wanted ?_ ?_; exact rfl) | ((with_reducible show RH _ _ _ ⟨some 2, .alloc _, _, _, _, _⟩ _ _ _ _); refine RH.alloc rfl ?_; rintro _ _ ⟨b2, rfl, rfl⟩) | ((with_reducible show RH _ _ _ ⟨some 6, .buildSlice _ _ _, _, _, _, _⟩ _ _ _ _); (refine RH.eff rfl rfl (EOpS.e (EOpS.slitV (by ((repeat (first | exact Elts.nil | apply Elts.one1 rfl | apply Elts.agg2 rfl)); done)) (by simp) rfl rfl)) ?_; rintro _ _ ⟨b6, rfl, rfl⟩)) | ((with_reducible show RH _ _ _ ⟨some 3, .alloc _, _, _, _, _⟩ _ _ _ _); refine RH.alloc rfl ?_; rintro _ _ ⟨b3, rfl, rfl⟩) | ((with_reducible show RH _ _ _ _ _ _ _ _); first | refine RH.val (hK := ?_) | refine RH.upd (hK := ?_)) | (with_reducible first | refine Run.seq ?_ | refine Run.region ?_ | refine Run.block ?_) | (with_reducible refine seqN (K := Run _ _ _ _) ?_))
  refine Run.sent (T := [hsl (tS tInt) (vsv (some ⟨b6, 0, none⟩, 0, 0)) [], hcells b3 [vint 2, vsb b6 0 0], hcells b2 [vint 0, vlit (.slice none 0 0)]])
    ((SEnt.pick (.cons (.tail .head) .nil)).trans (SEnt.packNil (tS tInt) rfl)) ?_
  refine Run.loop (α := Nat × Sv) (fun x => [(0, vsl 1 (fun x : Int => [vint x]) p), (2, vptr b2 0), (3, vptr b3 0), (4, vint (x.1 : Int))])
    (fun x => [hsl (tS tInt) (vsv x.2) (pairsAll p x.1), hcells b3 [vint 2, vlit (vsv x.2)], hcells b2 [vint 0, vlit (.slice none 0 0)]])
    (fun x => x.1 ≤ p.length) (fun x => p.length - x.1) (0, (some ⟨b6, 0, none⟩, 0, 0)) (by simp) (Ent.of slA .refl) ?_
  rintro ⟨l, s⟩ hl
  dsimp only at hl ⊢
  repeat' (first | (with_reducible refine RL.done ?_) | (with_reducible refine RL.wanted ?_ ?_; exact rfl) | ((with_reducible show RH _ _ _ _ _ _ _ _); first | refine RH.val (hK := ?_) | refine RH.upd (hK := ?_)) | (with_reducible first | refine Run.seq ?_ | refine Run.region ?_ | refine Run.block ?_ | refine Run.skip ?_ | refine Run.exit ?_ | refine Run.ret ?_) | (with_reducible show Run _ _ (.cond _ _ _) _ _ _; refine Run.condD rfl (fun h => ?_) (fun h => ?_)) | (with_reducible first | refine seqN (K := Run _ _ _ _) ?_ | refine seqE ?_ | refine blockE ?_))
  · refine Run.loop (α := Nat × Sv) (fun x => [(0, vsl 1 (fun x : Int => [vint x]) p), (2, vptr b2 0), (3, vptr b3 0), (4, vint (l : Int)), (5, vint (x.1 : Int))])
      (fun x => [hsl (tS tInt) (vsv x.2) (pairsAll p l ++ pairsTo p l x.1), hcells b3 [vint 2, vlit (vsv x.2)], hcells b2 [vint 0, vlit (.slice none 0 0)]])
      (fun x => x.1 ≤ p.length) (fun x => p.length - x.1) (0, s) (by simp) (Ent.of slA (.cons .head (by simp [pairsTo]) .refl)) ?_
    rintro ⟨m, s⟩ hm
    dsimp only at hm ⊢
    have hb1 := pairsAll_small p l hl hp
    have hb2 := pairsTo_le p l m
    have hb : (pairsAll p l ++ pairsTo p l m).length ≤ 72 := by rw [List.length_append]; omega
    repeat' (first | (with_reducible refine RL.done ?_) | (with_reducible refine RL.wanted ?_ ?_; exact rfl) | ((with_reducible show Run _ _ (.region 8 _ true) _ _ _); refine Run.regionD (fun i => false) rfl ?_; change RD _ _ _ _ _ _ 9 (dm 9 0) _ _) | ((with_reducible show RD _ _ 8 _ _ _ _ _ _ _); first | ((with_reducible show RD _ _ _ _ _ _ _ (dm 9 0) _ _); refine RD.tk 0 (dm 9 268) (dm 9 1) (hK := ?_)) | ((with_reducible show RD _ _ _ _ _ _ _ (dm 9 1) _ _); refine RD.tk 1 (dm 9 268) (dm 9 3) (hK := ?_)) | ((with_reducible show RD _ _ _ _ _ _ _ (dm 9 3) _ _); refine RD.tk 2 (dm 9 264) (dm 9 7) (hK := ?_)) | ((with_reducible show RD _ _ _ _ _ _ _ (dm 9 7) _ _); refine RD.tk 3 (dm 9 256) (dm 9 15) (hK := ?_)) | ((with_reducible show RD _ _ _ _ _ _ _ (dm 9 15) _ _); refine RD.tk 4 (dm 9 448) (dm 9 31) (hK := ?_)) | ((with_reducible show RD _ _ _ _ _ _ _ (dm 9 31) _ _); refine RD.tk 5 (dm 9 448) (dm 9 63) (hK := ?_)) | ((with_reducible show RD _ _ _ _ _ _ _ (dm 9 63) _ _); refine RD.tk 6 (dm 9 384) (dm 9 127) (hK := ?_)) | ((with_reducible show RD _ _ _ _ _ _ _ (dm 9 127) _ _); refine RD.tk 7 (dm 9 256) (dm 9 255) (hK := ?_)) | ((with_reducible show RD _ _ _ _ _ _ _ (dm 9 255) _ _); refine RD.tk 8 (dm 9 0) (dm 9 511) (hK := ?_)) | ((with_reducible show RD _ _ _ _ _ _ 0 _ _ _); refine RD.done (by kernel_rfl) ?_)) | ((with_reducible show RH _ _ _ ⟨some 33, .buildSlice _ _ _, _, _, _, _⟩ _ _ _ _); refine RH.eff rfl rfl (EOpS.e (EOpS.slit (fun x : Int => [vint x]) _ (fun _ _ => rfl) (by repeat (first | exact Elts.nil | (apply Elts.cons; exact rfl; exact CellsOf.one))) rfl rfl)) ?_; rintro _ _ ⟨b33, rfl, rfl⟩) | ((with_reducible show RH _ _ _ ⟨some 34, .buildSlice _ _ _, _, _, _, _⟩ _ _ _ _); (refine RH.eff rfl rfl (EOpS.e (EOpS.slitV (by ((repeat (first | exact Elts.nil | apply Elts.one1 rfl | apply Elts.agg2 rfl)); done)) (by simp) rfl rfl)) ?_; rintro _ _ ⟨b34, rfl, rfl⟩)) | ((with_reducible show RH _ _ _ ⟨_, .call ⟨.builtin .append, _, _⟩, _, _, _, _⟩ _ _ _ _); (refine RH.appRI rfl rfl rfl (by repeat (first | exact Pick.nil | (apply Pick.cons; (with_reducible repeat (first | exact Rem.head | apply Rem.tail))))) (by first | exact rfl | (simp; done)) (by first | omega | (simp; omega)) (by first | omega | (simp; omega)) ?_); rintro _ _ ⟨s, rfl, rfl⟩) | ((with_reducible show RH _ _ _ _ _ _ _ _); first | refine RH.val (hK := ?_) | refine RH.upd (hK := ?_)) | (with_reducible first | refine Run.seq ?_ | refine Run.region ?_ | refine Run.block ?_ | refine Run.skip ?_ | refine Run.exit ?_) | (with_reducible show Run _ _ (.cond _ _ _) _ _ _; refine Run.condD rfl (fun h => ?_) (fun h => ?_)) | (with_reducible first | refine seqN (K := Run _ _ _ _) ?_ | refine seqE ?_ | refine blockN ?_ | refine blockE ?_))
    · with_reducible refine seqN ?_
      exact ⟨(m + 1, s), by simp; omega, by simp; omega, Ent.of slA (.cons .head (by rw [pairsTo_yes p l m (by rw [getD_get, getD_get]; assumption), List.append_assoc]) .refl)⟩
    · with_reducible refine seqN ?_
      exact ⟨(m + 1, s), by simp; omega, by simp; omega, Ent.of slA (.cons .head (by rw [pairsTo_no p l m (by rw [getD_get, getD_get]; assumption)]) .refl)⟩
    · with_reducible refine seqN ?_
      exact ⟨(l + 1, s), by simp; omega, by simp; omega, Ent.of slA (.cons .head (by rw [pairsAll_succ, show m = p.length by omega]) .refl)⟩
  · obtain rfl : l = p.length := by omega
    refine ⟨eA, _, [hsl (tS tInt) (vsv s) (pairsAll p p.length)], resA, ?_, ?_⟩
    · exact SEnt.ch (.cons .head rfl .nil)
    · exact ⟨s, rfl, rfl⟩

end Go.Proofs.Ytiifdhdhjioefaa
