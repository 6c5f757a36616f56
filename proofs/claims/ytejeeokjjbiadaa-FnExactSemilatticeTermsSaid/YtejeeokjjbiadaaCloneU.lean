/- Clones: spec.l12First, l12Clone, and what is asked of them: CloneSize. Proved for this program; conditions: lengths below 2^62. -/
import Derived.Test.YtejeeokjjbiadaaCloneT
namespace Go.Proofs.Ytejeeokjjbiadaa
open Go Go.Proofs
set_option linter.unusedVariables false

set_option maxRecDepth 10000 in
set_option maxHeartbeats 1000000 in
theorem l12Clone_c (n : Int) (os : List (Int × List Int)) (m size : Nat) (ha : algB n os = true) (hm1 : 1 ≤ m) (hm3 : m ≤ 3) (hs : pw n m = size) (h27 : size ≤ 27) :
    Spec Try.prog 105 [vagg [vint n, vsl 2 (fun y : Int × (List Int) => [vint y.1, vsl 1 (fun x : Int => [vint x]) y.2]) os], vint (m : Int)] [] (LRes (cloneR n size os 62 (initC n m size m) (-1))) := by
  obtain ⟨h1, h8, h4, hops⟩ := algB_at ha
  have hR := l12Rounds_c n os m size h1 h8 hm1 hm3 h27 hops (by omega)
  refine Spec.of_run2 (n := 27) Try.func105 rfl Try.results105 Try.ntmps105 rfl ?_
  repeat' (first | (with_reducible refine RL.done ?_) | (with_reducible refine RL.wanted ?_ ?_; exact rfl) | ((with_reducible show RH _ _ _ ⟨some 2, .box _ _, _, _, _, _⟩ _ _ _ _); (refine RH.boxAgg rfl rfl ?_; rintro _ _ ⟨b2, rfl, rfl⟩)) | ((with_reducible show RH _ _ _ ⟨some 4, .alloc _, _, _, _, _⟩ _ _ _ _); refine RH.alloc rfl ?_; rintro _ _ ⟨b4, rfl, rfl⟩) | ((with_reducible show RH _ _ _ ⟨some 7, .buildSlice _ _ _, _, _, _, _⟩ _ _ _ _); (refine RH.eff rfl rfl (EOpS.e (EOpS.slitV (by ((repeat (first | exact Elts.nil | apply Elts.one1 rfl | apply Elts.agg2 rfl)); done)) (by simp) rfl rfl)) ?_; rintro _ _ ⟨b7, rfl, rfl⟩)) | ((with_reducible show RH _ _ _ _ _ _ _ _); refine RH.val (hK := ?_)) | (with_reducible first | refine Run.seq ?_ | refine Run.region ?_ | refine Run.block ?_) | (with_reducible refine seqN (K := Run _ _ _ _) ?_))
  refine Run.sent (T := [hsl tRow (vsv (some ⟨b7, 0, none⟩, 0, 0)) [], hcells b4 [vlit (.slice none 0 0), vlit (.slice none 0 0), vbool false], hcells b2 [vint n, vsl 2 (fun y : Int × (List Int) => [vint y.1, vsl 1 (fun x : Int => [vint x]) y.2]) os]]) (SEnt.packNil tRow rfl) ?_
  refine Run.loop (α := Nat × Sv) (fun x => [(1, vint (m : Int)), (2, vptr b2 0), (4, vptr b4 0), (5, vlit (vsv x.2)), (6, vint (x.1 : Int))]) (fun x => [hsl tRow (vsv x.2) (firstL n m size x.1), hcells b4 [vlit (.slice none 0 0), vlit (.slice none 0 0), vbool false], hcells b2 [vint n, vsl 2 (fun y : Int × (List Int) => [vint y.1, vsl 1 (fun x : Int => [vint x]) y.2]) os]]) (fun x => x.1 ≤ m) (fun x => m - x.1) (0, (some ⟨b7, 0, none⟩, 0, 0)) (by simp) (Ent.of slA (.cons .head rfl chA)) ?_
  rintro ⟨p, s⟩ hp
  dsimp only at hp ⊢
  have hfl := firstL_length n m size p
  rcases Nat.lt_or_eq_of_le hp with h9 | rfl
  · repeat' (first | (with_reducible refine RL.done ?_) | (with_reducible refine RL.wanted ?_ ?_; exact rfl) | ((with_reducible show RH _ _ _ ⟨some 19, .buildSlice _ _ _, _, _, _, _⟩ _ _ _ _); (refine RH.eff rfl rfl (EOpS.e (EOpS.slit (fun t : List Int => [vsl 1 (fun x : Int => [vint x]) t]) _ (fun _ _ => rfl) (by ((repeat (first | exact Elts.nil | (apply Elts.cons; exact rfl; exact CellsOf.one))); done)) rfl rfl)) ?_; rintro _ _ ⟨b19, rfl, rfl⟩)) | ((with_reducible show RH _ _ _ ⟨_, .call ⟨.value (.func 163), _, _⟩, _, _, _, _⟩ _ _ _ _); refine RH.cP Try.call163 ?_; refine ⟨_, l12Projection_c n m p size (by omega) (by omega) (by omega) (by omega) hs (by omega), ?_⟩; rintro _ _ ⟨s, rfl, rfl⟩; refine RL.app1 ?_; refine RL.frzI ?_) | ((with_reducible show RH _ _ _ ⟨_, .call ⟨.builtin .append, _, _⟩, _, _, _, _⟩ _ _ _ _); (refine RH.appF rfl rfl rfl (by repeat (first | exact Pick.nil | (apply Pick.cons; (with_reducible repeat (first | exact Rem.head | apply Rem.tail))))) (by first | omega | (simp; omega)) (by first | omega | (simp; omega)) ?_); rintro _ _ ⟨s, rfl, rfl⟩) | ((with_reducible show RH _ _ _ _ _ _ _ _); refine RH.val (hK := ?_)) | (with_reducible first | refine Run.seq ?_ | refine Run.region ?_ | refine Run.block ?_ | refine Run.skip ?_ | refine Run.exit ?_) | (with_reducible show Run _ _ (.cond _ _ _) _ _ _; refine Run.condD rfl (fun h => ?_) (fun h => ?_)) | (with_reducible first | refine seqN (K := Run _ _ _ _) ?_ | refine seqE ?_ | refine blockN ?_ | refine blockE ?_))
    · with_reducible refine seqN ?_
      exact ⟨(p + 1, _), by simp; omega, by simp; omega, Ent.of slA (by dsimp only; exact .cons .head (by rw [firstL_succ]) chA)⟩
    · exfalso; omega
  · repeat' (first | (with_reducible refine RL.done ?_) | (with_reducible refine RL.wanted ?_ ?_; exact rfl) | ((with_reducible show RH _ _ _ ⟨some 25, .move _, _, _, _, _⟩ _ _ _ _); refine RH.val (hK := ?_); refine RL.sent (SEnt.pick (B := [hsl tRow _ _]) (.cons (by with_reducible repeat (first | exact Rem.head | apply Rem.tail)) .nil)) ?_; refine RL.nm ?_; refine RL.frzR ?_) | ((with_reducible show RH _ _ _ ⟨_, .call ⟨.value (.func 164), _, _⟩, _, _, _, _⟩ _ _ _ _); refine RH.cW Try.call164 ?_; refine ⟨_, _, _, (by repeat (first | exact Pick.nil | (apply Pick.cons; (with_reducible repeat (first | exact Rem.head | apply Rem.tail))))), hR, ?_⟩; rintro _ _ ⟨u1, u2, l, c3, rfl, rfl, hl3⟩; refine RL.nm ?_) | ((with_reducible show RH _ _ _ _ _ _ _ _); first | refine RH.val (hK := ?_) | refine RH.upd (hK := ?_)) | (with_reducible first | refine Run.seq ?_ | refine Run.region ?_ | refine Run.block ?_ | refine Run.skip ?_ | refine Run.exit ?_ | refine Run.ret ?_) | (with_reducible show Run _ _ (.cond _ _ _) _ _ _; refine Run.condD rfl (fun h => ?_) (fun h => ?_)) | (with_reducible first | refine seqN (K := Run _ _ _ _) ?_ | refine seqE ?_ | refine blockE ?_))
    · exfalso; omega
    · refine ⟨eA, _, [hsl tRow (vsv u1) c3.1, hsl (tPair tInt (tS tInt)) (vsv u2) c3.2], resA, ?_, ?_⟩
      · exact SEnt.ch chA
      · exact ⟨u1, u2, l, c3, rfl, rfl, hl3⟩

end Go.Proofs.Ytejeeokjjbiadaa
