/- The relation of all tuples: spec.l13Full, FullRelation, impl.FullRelation. Proved for this program; no conditions on FullRelation. -/
import Derived.Test.YtiifdhdhjioefaaRelB
namespace Go.Proofs.Ytiifdhdhjioefaa
open Go Go.Proofs

theorem pw_512 (n : Int) (h0 : 1 ≤ n) (h8 : n ≤ 8) (k : Nat) (hk : k ≤ 3) : 1 ≤ pw n k ∧ pw n k ≤ 512 := by
  have h1 : pw n 1 = n := by simp [pw]
  have h2 : pw n 2 ≤ 8 * 8 := Int.mul_le_mul (by omega : pw n 1 ≤ 8) h8 (by omega) (by decide)
  have g2 : 1 * 1 ≤ pw n 2 := Int.mul_le_mul (by omega : 1 ≤ pw n 1) h0 (by decide) (pw_nonneg n (by omega) 1)
  have h3 : pw n 3 ≤ 64 * 8 := Int.mul_le_mul h2 h8 (by omega) (by decide)
  have g3 : 1 * 1 ≤ pw n 3 := Int.mul_le_mul g2 h0 (by decide) (pw_nonneg n (by omega) 2)
  match k, hk with
  | 0, _ => simp [pw]
  | 1, _ => omega
  | 2, _ => omega
  | 3, _ => omega

/-- the first m tuples -/
def tups (n : Int) (k m : Nat) : List (List Int) := (List.range m).map fun (i : Nat) => lowd (i : Int) n k
theorem tups_length (n : Int) (k m : Nat) : (tups n k m).length = m := by simp [tups]
theorem tups_succ (n : Int) (k m : Nat) : tups n k (m + 1) = tups n k m ++ [lowd (m : Int) n k] := by simp [tups, List.range_succ]

set_option maxRecDepth 10000 in
theorem l13Full_c (n : Int) (k : Nat) (h1 : 1 ≤ n) (h8 : n ≤ 8) (hk : k ≤ 3) :
    Spec Try.prog 93 [vint n, vint (k : Int)] [] (fun r S' => ∃ s : Sv, r = vagg [vint (k : Int), vlit (vsv s)] ∧ S' = [hsl (tS tInt) (vsv s) (tups n k (pw n k).toNat)]) := by
  have hp := pw_512 n h1 h8 k hk
  refine Spec.of_run2 (n := 27) Try.func93 rfl Try.results93 Try.ntmps93 rfl ?_
  repeat' (first | (with_reducible refine RL.done ?_) | (with_reducible refine RL.wanted ?_ ?_; exact rfl) | ((with_reducible show RH _ _ _ ⟨some 4, .alloc _, _, _, _, _⟩ _ _ _ _); refine RH.alloc rfl ?_; rintro _ _ ⟨b4, rfl, rfl⟩) | ((with_reducible show RH _ _ _ ⟨some 8, .buildSlice _ _ _, _, _, _, _⟩ _ _ _ _); (refine RH.eff rfl rfl (EOpS.e (EOpS.slitV (by ((repeat (first | exact Elts.nil | apply Elts.one1 rfl | apply Elts.agg2 rfl)); done)) (by simp) rfl rfl)) ?_; rintro _ _ ⟨b8, rfl, rfl⟩)) | ((with_reducible show RH _ _ _ ⟨some 5, .alloc _, _, _, _, _⟩ _ _ _ _); refine RH.alloc rfl ?_; rintro _ _ ⟨b5, rfl, rfl⟩) | ((with_reducible show RH _ _ _ _ _ _ _ _); first | refine RH.val (hK := ?_) | refine RH.upd (hK := ?_)) | (with_reducible first | refine Run.seq ?_ | refine Run.region ?_ | refine Run.block ?_) | (with_reducible refine seqN (K := Run _ _ _ _) ?_))
  refine Run.sent (T := [hsl (tS tInt) (vsv (some ⟨b8, 0, none⟩, 0, 0)) [], hcells b5 [vint (k : Int), vsb b8 0 0], hcells b4 [vint 0, vlit (.slice none 0 0)]])
    ((SEnt.pick (.cons (.tail .head) .nil)).trans (SEnt.packNil (tS tInt) rfl)) ?_
  refine Run.loop (α := Nat × Sv) (fun x => [(0, vint n), (1, vint (k : Int)), (4, vptr b4 0), (5, vptr b5 0), (6, vint (x.1 : Int))])
    (fun x => [hsl (tS tInt) (vsv x.2) (tups n k x.1), hcells b5 [vint (k : Int), vlit (vsv x.2)], hcells b4 [vint 0, vlit (.slice none 0 0)]])
    (fun x => x.1 ≤ (pw n k).toNat) (fun x => (pw n k).toNat - x.1) (0, (some ⟨b8, 0, none⟩, 0, 0)) (by simp) (Ent.of slA .refl) ?_
  rintro ⟨m, s⟩ hm
  dsimp only at hm ⊢
  have hl := tups_length n k m
  repeat' (first | (with_reducible first | refine RL.done ?_ | refine RL.app0 ?_ | refine RD.app1 ?_) | (with_reducible refine RL.wanted ?_ ?_; exact rfl) | ((with_reducible show Run _ _ (.region 5 _ true) _ _ _); refine Run.regionD (fun i => i == 7 || i == 9) rfl ?_; change RD _ _ _ _ _ _ 10 (dm 10 0) _ _) | ((with_reducible show RD _ _ 5 _ _ _ _ _ _ _); first | ((with_reducible show RD _ _ _ _ _ _ _ (dm 10 0) _ _); refine RD.tk 0 (dm 10 898) (dm 10 1) (hK := ?_)) | ((with_reducible show RD _ _ _ _ _ _ _ (dm 10 1) _ _); refine RD.tk 1 (dm 10 896) (dm 10 3) (hK := ?_)) | ((with_reducible show RD _ _ _ _ _ _ _ (dm 10 3) _ _); refine RD.tk 2 (dm 10 992) (dm 10 7) (hK := ?_)) | ((with_reducible show RD _ _ _ _ _ _ _ (dm 10 7) _ _); refine RD.tk 3 (dm 10 992) (dm 10 15) (hK := ?_)) | ((with_reducible show RD _ _ _ _ _ _ _ (dm 10 15) _ _); refine RD.tk 4 (dm 10 992) (dm 10 31) (hK := ?_)) | ((with_reducible show RD _ _ _ _ _ _ _ (dm 10 31) _ _); refine RD.a1 5 ?_) | ((with_reducible show RD _ _ _ _ _ _ _ (dm 10 63) _ _); refine RD.a1 6 ?_) | ((with_reducible show RD _ _ _ _ _ _ _ (dm 10 127) _ _); refine RD.a1 7 ?_) | ((with_reducible show RD _ _ _ _ _ _ _ (dm 10 255) _ _); refine RD.tk 8 (dm 10 512) (dm 10 511) (hK := ?_)) | ((with_reducible show RD _ _ _ _ _ _ _ (dm 10 511) _ _); refine RD.a1 9 ?_) | ((with_reducible show RD _ _ _ _ _ _ 0 _ _ _); refine RD.done (by kernel_rfl) ?_)) | ((with_reducible show RO _ _ 5 _ _ _ _ _ _ _ _); first | ((with_reducible show RO _ _ _ _ _ _ _ (dm 10 31) 5 _ _); (refine RO.cP (dm 10 63) Try.call100 ?_; refine ⟨_, l2Args_c _ _ _ (by omega) (by omega) (by omega) (by omega), ?_⟩; rintro _ _ ⟨s1, rfl, rfl⟩)) | ((with_reducible show RO _ _ _ _ _ _ _ (dm 10 63) 6 _ _); (refine RO.eS (dm 10 127) (hv := by show EOpS _ _ _ _ ⟨_, .buildSlice _ _ _, _, _, _, _⟩ _; exact EOpS.slitV (by ((repeat (first | exact Elts.nil | apply Elts.one1 rfl | apply Elts.agg2 rfl)); done)) (by simp) rfl rfl) (h := ?_); rintro _ _ ⟨b23, rfl, rfl⟩)) | ((with_reducible show RO _ _ _ _ _ _ _ (dm 10 127) 7 _ _); (refine RO.h (dm 10 255) ?_; show RH _ _ _ ⟨_, _, _, _, _, _⟩ _ _ _ _)) | ((with_reducible show RO _ _ _ _ _ _ _ (dm 10 511) 9 _ _); (refine RO.h (dm 10 1023) ?_; show RH _ _ _ ⟨_, _, _, _, _, _⟩ _ _ _ _))) | ((with_reducible show RH _ _ _ ⟨_, .call ⟨.value (.func 99), _, _⟩, _, _, _, _⟩ _ _ _ _); refine RH.cP Try.call99 ?_; refine ⟨_, l2Pow_c _ _ (by omega) (by omega) (by omega), ?_⟩; rintro _ _ ⟨rfl, rfl⟩) | ((with_reducible show RH _ _ _ ⟨_, .call ⟨.builtin .append, _, _⟩, _, _, _, _⟩ _ _ _ _); (refine RH.appR rfl rfl rfl (by repeat (first | exact Pick.nil | (apply Pick.cons; (with_reducible repeat (first | exact Rem.head | apply Rem.tail))))) (by first | omega | (simp; omega)) (by first | omega | (simp; omega)) ?_); rintro _ _ ⟨s, rfl, rfl⟩) | ((with_reducible show RH _ _ _ _ _ _ _ _); first | refine RH.val (hK := ?_) | refine RH.upd (hK := ?_)) | (with_reducible first | refine Run.seq ?_ | refine Run.region ?_ | refine Run.block ?_ | refine Run.skip ?_ | refine Run.exit ?_ | refine Run.ret ?_) | (with_reducible show Run _ _ (.cond _ _ _) _ _ _; refine Run.condD rfl (fun h => ?_) (fun h => ?_)) | (with_reducible first | refine seqN (K := Run _ _ _ _) ?_ | refine seqE ?_ | refine blockN ?_ | refine blockE ?_))
  · with_reducible refine seqN ?_
    exact ⟨(m + 1, s), by simp; omega, by simp; omega, Ent.of slA (.cons .head (by rw [tups_succ]) .refl)⟩
  · have e : (pw n k).toNat = m := by omega
    refine ⟨eA, _, [hsl (tS tInt) (vsv s) (tups n k m)], resA, ?_, ?_⟩
    · exact SEnt.ch (.cons .head rfl .nil)
    · exact ⟨s, rfl, by rw [e]⟩

end Go.Proofs.Ytiifdhdhjioefaa
