/- sort's steps: sort.swapRange_func, rotate_func, insertionSort_func. Proved for this program; conditions: places within the list. -/
import Derived.Test.YtodlpdedldhebaaSrt
namespace Go.Proofs.Ytodlpdedldhebaa
open Go Go.Proofs
set_option linter.unusedVariables false
section
variable {fl fs : FuncId} {vl vs : List Value} {A : List (List Int) → HP} {m : Nat}
set_option maxRecDepth 10000 in
set_option maxHeartbeats 2000000 in
theorem swapRange_c (hS : Srt Try.prog fl vl fs vs A m) (xs : List (List Int)) (hx : xs.length = m) (a b k : Int) (ha : 0 ≤ a) (hk : 1 ≤ k) (hab : a + k ≤ b) (hb : b + k ≤ m) :
    Spec Try.prog 171 [vagg (dat fl vl fs vs), vint a, vint b, vint k] [A xs] (fun r S' => ∃ ys, r = vtup [] ∧ S' = [A ys] ∧ Exch a.toNat b.toNat k.toNat xs ys) := by
  have hbig := hS.big
  refine Spec.of_run2 (n := 23) Try.func171 rfl Try.results171 Try.ntmps171 rfl ?_
  repeat' (first | (with_reducible first | refine RL.done ?_ | refine RL.app0 ?_ | refine RL.app1 ?_ | refine RL.app2 ?_ | refine RL.app3 ?_ | refine RL.app4 ?_) | (with_reducible refine RL.wanted ?_ ?_; exact rfl) | ((with_reducible show RH _ _ _ ⟨some 4, .box _ _, _, _, _, _⟩ _ _ _ _); first | (refine RH.boxAgg rfl rfl ?_; rintro _ _ ⟨b4, rfl, rfl⟩) | (refine RH.boxOne rfl rfl ?_; rintro _ _ ⟨b4, rfl, rfl⟩)) | ((with_reducible show RH _ _ _ _ _ _ _ _); first | refine RH.val (hK := ?_) | refine RH.upd (hK := ?_) | (refine RH.lr (h := ?_); intro u)) | (with_reducible first | refine Run.seq ?_ | refine Run.region ?_ | refine Run.block ?_ | refine Run.skip ?_ | refine Run.exit ?_ | refine Run.ret ?_) | (with_reducible show Run _ _ (.cond _ _ _) _ _ _; first | refine Run.condT rfl ?_ | refine Run.condF rfl ?_ | refine Run.condD rfl (fun h => ?_) (fun h => ?_) | refine Run.condND rfl (fun h => ?_) (fun h => ?_) | refine Run.condNB rfl (fun h => ?_) (fun h => ?_) | refine Run.cond rfl (fun h => ?_) (fun h => ?_)) | (with_reducible first | refine seqN (K := Run _ _ _ _) ?_ | refine seqE ?_ | refine seqR ?_ | refine blockN ?_ | refine blockR ?_ | refine blockE ?_) | (with_reducible refine blockX ?_ ?_; exact rfl))
  refine Run.loop (α := Nat × List (List Int)) (fun z => [(1, vint a), (2, vint b), (3, vint k), (4, vptr b4 0), (8, vint (z.1 : Int))]) (fun z => [A z.2, hcells b4 (dat fl vl fs vs)]) (fun z => z.1 ≤ k.toNat ∧ Exch a.toNat b.toNat z.1 xs z.2) (fun z => k.toNat - z.1) (0, xs) ⟨by omega, Exch.zero _ _ _⟩ (Ent.of slA chA) ?_
  rintro ⟨i, ys⟩ ⟨hi, he⟩
  (try dsimp only at hi he ⊢)
  have hy : ys.length = m := he.len.trans hx
  repeat' (first | (with_reducible first | refine RL.done ?_ | refine RL.app0 ?_ | refine RL.app1 ?_ | refine RL.app2 ?_ | refine RL.app3 ?_ | refine RL.app4 ?_) | (with_reducible refine RL.wanted ?_ ?_; exact rfl) | ((with_reducible show RH _ _ _ ⟨some 4, .box _ _, _, _, _, _⟩ _ _ _ _); first | (refine RH.boxAgg rfl rfl ?_; rintro _ _ ⟨b4, rfl, rfl⟩) | (refine RH.boxOne rfl rfl ?_; rintro _ _ ⟨b4, rfl, rfl⟩)) | ((with_reducible show RH _ _ _ ⟨_, .call ⟨.value (.tmp _), _, _⟩, _, _, _, _⟩ _ _ _ _); refine RH.eff rfl rfl (EOp.swap hS.swap rfl rfl rfl (by with_reducible repeat (first | exact Rem.head | apply Rem.tail)) hy (by omega) (by omega) (by omega) (by omega) (by omega)) ?_; rintro _ _ ⟨rfl, rfl⟩) | ((with_reducible show RH _ _ _ _ _ _ _ _); first | refine RH.val (hK := ?_) | refine RH.upd (hK := ?_) | (refine RH.lr (h := ?_); intro u)) | (with_reducible first | refine Run.seq ?_ | refine Run.region ?_ | refine Run.block ?_ | refine Run.skip ?_ | refine Run.exit ?_ | refine Run.ret ?_) | (with_reducible show Run _ _ (.cond _ _ _) _ _ _; first | refine Run.condT rfl ?_ | refine Run.condF rfl ?_ | refine Run.condD rfl (fun h => ?_) (fun h => ?_) | refine Run.condND rfl (fun h => ?_) (fun h => ?_) | refine Run.condNB rfl (fun h => ?_) (fun h => ?_) | refine Run.cond rfl (fun h => ?_) (fun h => ?_)) | (with_reducible first | refine seqN (K := Run _ _ _ _) ?_ | refine seqE ?_ | refine seqR ?_ | refine blockN ?_ | refine blockR ?_ | refine blockE ?_) | (with_reducible refine blockX ?_ ?_; exact rfl))
  all_goals first
    | (with_reducible refine seqN ?_
       refine ⟨(i + 1, _), ⟨by dsimp only; omega, ?_⟩, by dsimp only; omega, Ent.of slA chA⟩
       dsimp only
       rw [show (a + (i : Int)).toNat = a.toNat + i by omega, show (b + (i : Int)).toNat = b.toNat + i by omega]
       exact he.step (by omega) (by omega))
    | (have e : i = k.toNat := by omega
       subst e
       refine ⟨eA, _, [A ys], resA, ?_, ?_⟩
       · exact SEnt.ch chA
       · exact ⟨ys, rfl, rfl, he⟩)
set_option maxRecDepth 10000 in
set_option maxHeartbeats 2000000 in
theorem rotate_c (hS : Srt Try.prog fl vl fs vs A m) (xs : List (List Int)) (hx : xs.length = m) (a mm b : Int) (ha : 0 ≤ a) (ham : a < mm) (hmb : mm < b) (hb : b ≤ m) :
    Spec Try.prog 168 [vagg (dat fl vl fs vs), vint a, vint mm, vint b] [A xs] (fun r S' => ∃ ys, r = vtup [] ∧ S' = [A ys] ∧ Rot a.toNat mm.toNat b.toNat xs ys) := by
  have hbig := hS.big
  refine Spec.of_run2 (n := 53) Try.func168 rfl Try.results168 Try.ntmps168 rfl ?_
  repeat' (first | (with_reducible first | refine RL.done ?_ | refine RL.app0 ?_ | refine RL.app1 ?_ | refine RL.app2 ?_ | refine RL.app3 ?_ | refine RL.app4 ?_) | (with_reducible refine RL.wanted ?_ ?_; exact rfl) | ((with_reducible show RH _ _ _ ⟨some 4, .box _ _, _, _, _, _⟩ _ _ _ _); first | (refine RH.boxAgg rfl rfl ?_; rintro _ _ ⟨b4, rfl, rfl⟩) | (refine RH.boxOne rfl rfl ?_; rintro _ _ ⟨b4, rfl, rfl⟩)) | ((with_reducible show RH _ _ _ _ _ _ _ _); first | refine RH.val (hK := ?_) | refine RH.upd (hK := ?_) | (refine RH.lr (h := ?_); intro u)) | (with_reducible first | refine Run.seq ?_ | refine Run.region ?_ | refine Run.block ?_ | refine Run.skip ?_ | refine Run.exit ?_ | refine Run.ret ?_) | (with_reducible show Run _ _ (.cond _ _ _) _ _ _; first | refine Run.condT rfl ?_ | refine Run.condF rfl ?_ | refine Run.condD rfl (fun h => ?_) (fun h => ?_) | refine Run.condND rfl (fun h => ?_) (fun h => ?_) | refine Run.condNB rfl (fun h => ?_) (fun h => ?_) | refine Run.cond rfl (fun h => ?_) (fun h => ?_)) | (with_reducible first | refine seqN (K := Run _ _ _ _) ?_ | refine seqE ?_ | refine seqR ?_ | refine blockN ?_ | refine blockR ?_ | refine blockE ?_) | (with_reducible refine blockX ?_ ?_; exact rfl))
  refine Run.loop (α := Nat × Nat × List (List Int)) (fun z => [(1, vint a), (2, vint mm), (3, vint b), (4, vptr b4 0), (8, vint (z.1 : Int)), (9, vint (z.2.1 : Int))]) (fun z => [A z.2.2, hcells b4 (dat fl vl fs vs)]) (fun z => RotI a.toNat mm.toNat b.toNat z.1 z.2.1 xs z.2.2) (fun z => z.1 + z.2.1) (mm.toNat - a.toNat, b.toNat - mm.toNat, xs) (RotI.start (by omega) (by omega)) (Ent.of (by dsimp only; exact slA) chA) ?_
  rintro ⟨i, j, ys⟩ hI
  (try dsimp only at hI ⊢)
  have hy : ys.length = m := hI.len.trans hx
  have h1 := hI.lo; have h2 := hI.hi; have h3 := hI.pos
  repeat' (first | (with_reducible first | refine RL.done ?_ | refine RL.app0 ?_ | refine RL.app1 ?_ | refine RL.app2 ?_ | refine RL.app3 ?_ | refine RL.app4 ?_) | (with_reducible refine RL.wanted ?_ ?_; exact rfl) | ((with_reducible show RH _ _ _ ⟨some 4, .box _ _, _, _, _, _⟩ _ _ _ _); first | (refine RH.boxAgg rfl rfl ?_; rintro _ _ ⟨b4, rfl, rfl⟩) | (refine RH.boxOne rfl rfl ?_; rintro _ _ ⟨b4, rfl, rfl⟩)) | ((with_reducible show RH _ _ _ ⟨_, .call ⟨.value (.func 171), _, _⟩, _, _, _, _⟩ _ _ _ _); refine RH.cW Try.call171 ?_; refine ⟨_, _, _, (by repeat (first | exact Pick.nil | (apply Pick.cons; (with_reducible repeat (first | exact Rem.head | apply Rem.tail))))), swapRange_c hS ys hy _ _ _ (by omega) (by omega) (by omega) (by omega), ?_⟩; rintro _ _ ⟨zs, rfl, rfl, hz⟩; refine RL.nm ?_) | ((with_reducible show RH _ _ _ _ _ _ _ _); first | refine RH.val (hK := ?_) | refine RH.upd (hK := ?_) | (refine RH.lr (h := ?_); intro u)) | (with_reducible first | refine Run.seq ?_ | refine Run.region ?_ | refine Run.block ?_ | refine Run.skip ?_ | refine Run.exit ?_ | refine Run.ret ?_) | (with_reducible show Run _ _ (.cond _ _ _) _ _ _; first | refine Run.condT rfl ?_ | refine Run.condF rfl ?_ | refine Run.condD rfl (fun h => ?_) (fun h => ?_) | refine Run.condND rfl (fun h => ?_) (fun h => ?_) | refine Run.condNB rfl (fun h => ?_) (fun h => ?_) | refine Run.cond rfl (fun h => ?_) (fun h => ?_)) | (with_reducible first | refine seqN (K := Run _ _ _ _) ?_ | refine seqE ?_ | refine seqR ?_ | refine blockN ?_ | refine blockR ?_ | refine blockE ?_) | (with_reducible refine blockX ?_ ?_; exact rfl))
  all_goals first
    | (with_reducible refine seqN ?_
       refine ⟨(i - j, j, zs), ?_, by dsimp only; omega, Ent.of (by dsimp only; exact slA) chA⟩
       dsimp only
       rw [show (mm - (i : Int)).toNat = mm.toNat - i by omega, Int.toNat_natCast] at hz
       exact hI.big (by omega) (by omega) (by omega) (by omega) hz)
    | (with_reducible refine seqN ?_
       refine ⟨(i, j - i, zs), ?_, by dsimp only; omega, Ent.of (by dsimp only; exact slA) chA⟩
       dsimp only
       rw [show (mm - (i : Int)).toNat = mm.toNat - i by omega, show (mm + (j : Int) - (i : Int)).toNat = mm.toNat + j - i by omega, Int.toNat_natCast] at hz
       exact hI.small (by omega) (by omega) (by omega) (by omega) hz)
    | (have e : i = j := by omega
       subst e
       rw [show (mm - (i : Int)).toNat = mm.toNat - i by omega, Int.toNat_natCast] at hz
       refine ⟨eA, _, [A zs], resA, ?_, ?_⟩
       · exact SEnt.ch chA
       · exact ⟨zs, rfl, rfl, hI.last (by omega) (by omega) (by omega) hz⟩)
set_option maxRecDepth 10000 in
set_option maxHeartbeats 4000000 in
theorem insertionSort_c (hS : Srt Try.prog fl vl fs vs A m) (xs : List (List Int)) (hx : xs.length = m) (a b : Int) (ha : 0 ≤ a) (hab : a ≤ b) (hb : b ≤ m) :
    Spec Try.prog 163 [vagg (dat fl vl fs vs), vint a, vint b] [A xs] (fun r S' => ∃ ys, r = vtup [] ∧ S' = [A ys] ∧ Mrg leL a.toNat b.toNat xs ys) := by
  have hbig := hS.big
  refine Spec.of_run2 (n := 35) Try.func163 rfl Try.results163 Try.ntmps163 rfl ?_
  repeat' (first | (with_reducible first | refine RL.done ?_ | refine RL.app0 ?_ | refine RL.app1 ?_ | refine RL.app2 ?_ | refine RL.app3 ?_ | refine RL.app4 ?_) | (with_reducible refine RL.wanted ?_ ?_; exact rfl) | ((with_reducible show RH _ _ _ ⟨some 3, .box _ _, _, _, _, _⟩ _ _ _ _); first | (refine RH.boxAgg rfl rfl ?_; rintro _ _ ⟨b3, rfl, rfl⟩) | (refine RH.boxOne rfl rfl ?_; rintro _ _ ⟨b3, rfl, rfl⟩)) | ((with_reducible show RH _ _ _ _ _ _ _ _); first | refine RH.val (hK := ?_) | refine RH.upd (hK := ?_) | (refine RH.lr (h := ?_); intro u)) | (with_reducible show RL _ _ _ (_ :: _) _ _ _; first | refine RL.guardYes rfl rfl rfl rfl ?_ | refine RL.guardNoS rfl rfl rfl rfl rfl rfl ?_ | refine RL.guardNo0 rfl rfl rfl rfl rfl rfl ?_ | refine RL.splitD rfl rfl rfl (fun h => ?_) (fun h => ?_) | refine RL.splitND rfl rfl rfl (fun h => ?_) (fun h => ?_) | refine RL.splitNB rfl rfl rfl (fun h => ?_) (fun h => ?_) | refine RL.split rfl rfl rfl (fun h => ?_) (fun h => ?_)) | (with_reducible first | refine Run.seq ?_ | refine Run.region ?_ | refine Run.block ?_ | refine Run.skip ?_ | refine Run.exit ?_ | refine Run.ret ?_) | (with_reducible show Run _ _ (.cond _ _ _) _ _ _; first | refine Run.condT rfl ?_ | refine Run.condF rfl ?_ | refine Run.condD rfl (fun h => ?_) (fun h => ?_) | refine Run.condND rfl (fun h => ?_) (fun h => ?_) | refine Run.condNB rfl (fun h => ?_) (fun h => ?_) | refine Run.cond rfl (fun h => ?_) (fun h => ?_)) | (with_reducible first | refine seqN (K := Run _ _ _ _) ?_ | refine seqE ?_ | refine seqR ?_ | refine blockN ?_ | refine blockR ?_ | refine blockE ?_) | (with_reducible refine blockX ?_ ?_; exact rfl))
  refine Run.loop (α := Nat × List (List Int)) (fun z => [(1, vint a), (2, vint b), (3, vptr b3 0), (6, vint (z.1 : Int))]) (fun z => [A z.2, hcells b3 (dat fl vl fs vs)]) (fun z => a.toNat + 1 ≤ z.1 ∧ SegS leL z.2 a.toNat z.1 ∧ Mv a.toNat b.toNat xs z.2) (fun z => b.toNat - z.1) (a.toNat + 1, xs) ⟨by dsimp only; omega, SegS.one _, Mv.refl _ _ _⟩ (Ent.of slA chA) ?_
  rintro ⟨i, ys⟩ ⟨hi, hseg, hmv⟩
  (try dsimp only at hi hseg hmv ⊢)
  by_cases hib : (i : Int) < b
  · repeat' (first | (with_reducible first | refine RL.done ?_ | refine RL.app0 ?_ | refine RL.app1 ?_ | refine RL.app2 ?_ | refine RL.app3 ?_ | refine RL.app4 ?_) | (with_reducible refine RL.wanted ?_ ?_; exact rfl) | ((with_reducible show RH _ _ _ ⟨some 3, .box _ _, _, _, _, _⟩ _ _ _ _); first | (refine RH.boxAgg rfl rfl ?_; rintro _ _ ⟨b3, rfl, rfl⟩) | (refine RH.boxOne rfl rfl ?_; rintro _ _ ⟨b3, rfl, rfl⟩)) | ((with_reducible show RH _ _ _ _ _ _ _ _); first | refine RH.val (hK := ?_) | refine RH.upd (hK := ?_) | (refine RH.lr (h := ?_); intro u)) | (with_reducible show RL _ _ _ (_ :: _) _ _ _; first | refine RL.guardYes rfl rfl rfl rfl ?_ | refine RL.guardNoS rfl rfl rfl rfl rfl rfl ?_ | refine RL.guardNo0 rfl rfl rfl rfl rfl rfl ?_ | refine RL.splitD rfl rfl rfl (fun h => ?_) (fun h => ?_) | refine RL.splitND rfl rfl rfl (fun h => ?_) (fun h => ?_) | refine RL.splitNB rfl rfl rfl (fun h => ?_) (fun h => ?_) | refine RL.split rfl rfl rfl (fun h => ?_) (fun h => ?_)) | (with_reducible first | refine Run.seq ?_ | refine Run.region ?_ | refine Run.block ?_ | refine Run.skip ?_ | refine Run.exit ?_ | refine Run.ret ?_) | (with_reducible show Run _ _ (.cond _ _ _) _ _ _; first | refine Run.condT rfl ?_ | refine Run.condF rfl ?_ | refine Run.condD rfl (fun h => ?_) (fun h => ?_) | refine Run.condND rfl (fun h => ?_) (fun h => ?_) | refine Run.condNB rfl (fun h => ?_) (fun h => ?_) | refine Run.cond rfl (fun h => ?_) (fun h => ?_)) | (with_reducible first | refine seqN (K := Run _ _ _ _) ?_ | refine seqE ?_ | refine seqR ?_ | refine blockN ?_ | refine blockR ?_ | refine blockE ?_) | (with_reducible refine blockX ?_ ?_; exact rfl))
    all_goals first
      | (exfalso; omega)
      | skip
    refine Run.loop (α := Nat × List (List Int)) (fun z => [(1, vint a), (2, vint b), (3, vptr b3 0), (6, vint (i : Int)), (7, vint (z.1 : Int))]) (fun z => [A z.2, hcells b3 (dat fl vl fs vs)]) (fun z => a.toNat ≤ z.1 ∧ z.1 ≤ i ∧ InsI leL a.toNat i z.1 z.2 ∧ Mv a.toNat b.toNat xs z.2) (fun z => z.1) (i, ys) ⟨by dsimp only; omega, Nat.le_refl _, InsI.start hseg, hmv⟩ (Ent.of slA chA) ?_
    rintro ⟨j, zs⟩ ⟨hj1, hj2, hI, hm2⟩
    (try dsimp only at hj1 hj2 hI hm2 ⊢)
    have hy : zs.length = m := hm2.len.trans hx
    have e1 : ((j : Int) - 1).toNat = j - 1 := by omega
    repeat' (first | (with_reducible first | refine RL.done ?_ | refine RL.app0 ?_ | refine RL.app1 ?_ | refine RL.app2 ?_ | refine RL.app3 ?_ | refine RL.app4 ?_) | (with_reducible refine RL.wanted ?_ ?_; exact rfl) | ((with_reducible show RH _ _ _ ⟨some 3, .box _ _, _, _, _, _⟩ _ _ _ _); first | (refine RH.boxAgg rfl rfl ?_; rintro _ _ ⟨b3, rfl, rfl⟩) | (refine RH.boxOne rfl rfl ?_; rintro _ _ ⟨b3, rfl, rfl⟩)) | ((with_reducible show RH _ _ _ ⟨_, .call ⟨.value (.tmp _), _, _⟩, _, _, _, _⟩ _ _ _ _); refine RH.cC hS.less.enter ?_; refine ⟨_, _, _, (by repeat (first | exact Pick.nil | (apply Pick.cons; (with_reducible repeat (first | exact Rem.head | apply Rem.tail))))), hS.less.run _ _ _ hy (by omega) (by omega) (by omega) (by omega), ?_⟩; rintro _ _ ⟨rfl, rfl⟩; refine RL.nm ?_) | ((with_reducible show RH _ _ _ ⟨_, .call ⟨.value (.tmp _), _, _⟩, _, _, _, _⟩ _ _ _ _); refine RH.eff rfl rfl (EOp.swap hS.swap rfl rfl rfl (by with_reducible repeat (first | exact Rem.head | apply Rem.tail)) hy (by omega) (by omega) (by omega) (by omega) (by omega)) ?_; rintro _ _ ⟨rfl, rfl⟩) | ((with_reducible show RH _ _ _ _ _ _ _ _); first | refine RH.val (hK := ?_) | refine RH.upd (hK := ?_) | (refine RH.lr (h := ?_); intro u)) | (with_reducible show RL _ _ _ (_ :: _) _ _ _; first | refine RL.guardYes rfl rfl rfl rfl ?_ | refine RL.guardNoS rfl rfl rfl rfl rfl rfl ?_ | refine RL.guardNo0 rfl rfl rfl rfl rfl rfl ?_ | refine RL.splitD rfl rfl rfl (fun h => ?_) (fun h => ?_) | refine RL.splitND rfl rfl rfl (fun h => ?_) (fun h => ?_) | refine RL.splitNB rfl rfl rfl (fun h => ?_) (fun h => ?_) | refine RL.split rfl rfl rfl (fun h => ?_) (fun h => ?_)) | (with_reducible first | refine Run.seq ?_ | refine Run.region ?_ | refine Run.block ?_ | refine Run.skip ?_ | refine Run.exit ?_ | refine Run.ret ?_) | (with_reducible show Run _ _ (.cond _ _ _) _ _ _; first | refine Run.condT rfl ?_ | refine Run.condF rfl ?_ | refine Run.condD rfl (fun h => ?_) (fun h => ?_) | refine Run.condND rfl (fun h => ?_) (fun h => ?_) | refine Run.condNB rfl (fun h => ?_) (fun h => ?_) | refine Run.cond rfl (fun h => ?_) (fun h => ?_)) | (with_reducible first | refine seqN (K := Run _ _ _ _) ?_ | refine seqE ?_ | refine seqR ?_ | refine blockN ?_ | refine blockR ?_ | refine blockE ?_) | (with_reducible refine blockX ?_ ?_; exact rfl))
    all_goals first
      | (with_reducible refine seqN ?_
         refine ⟨(j - 1, _), ⟨by dsimp only; omega, by dsimp only; omega, ?_, ?_⟩, by dsimp only; omega, Ent.of slA chA⟩
         · dsimp only
           rw [e1, Int.toNat_natCast]
           exact hI.step (by omega) hj2 (by omega) (ltL_le (by rw [← e1]; assumption))
         · dsimp only
           rw [e1, Int.toNat_natCast]
           exact hm2.trans (Mv.swap (by omega) (by omega) (by omega) (by omega) (by omega)))
      | (with_reducible refine seqN ?_
         exact ⟨(i + 1, zs), ⟨by dsimp only; omega, hI.stop leL_trans hj2 (.inl (by omega)), hm2⟩, by dsimp only; omega, Ent.of slA chA⟩)
      | (with_reducible refine seqN ?_
         exact ⟨(i + 1, zs), ⟨by dsimp only; omega, hI.stop leL_trans hj2 (.inr (by rw [leL, ← e1]; assumption)), hm2⟩, by dsimp only; omega, Ent.of slA chA⟩)
  · repeat' (first | (with_reducible first | refine RL.done ?_ | refine RL.app0 ?_ | refine RL.app1 ?_ | refine RL.app2 ?_ | refine RL.app3 ?_ | refine RL.app4 ?_) | (with_reducible refine RL.wanted ?_ ?_; exact rfl) | ((with_reducible show RH _ _ _ ⟨some 3, .box _ _, _, _, _, _⟩ _ _ _ _); first | (refine RH.boxAgg rfl rfl ?_; rintro _ _ ⟨b3, rfl, rfl⟩) | (refine RH.boxOne rfl rfl ?_; rintro _ _ ⟨b3, rfl, rfl⟩)) | ((with_reducible show RH _ _ _ _ _ _ _ _); first | refine RH.val (hK := ?_) | refine RH.upd (hK := ?_) | (refine RH.lr (h := ?_); intro u)) | (with_reducible show RL _ _ _ (_ :: _) _ _ _; first | refine RL.guardYes rfl rfl rfl rfl ?_ | refine RL.guardNoS rfl rfl rfl rfl rfl rfl ?_ | refine RL.guardNo0 rfl rfl rfl rfl rfl rfl ?_ | refine RL.splitD rfl rfl rfl (fun h => ?_) (fun h => ?_) | refine RL.splitND rfl rfl rfl (fun h => ?_) (fun h => ?_) | refine RL.splitNB rfl rfl rfl (fun h => ?_) (fun h => ?_) | refine RL.split rfl rfl rfl (fun h => ?_) (fun h => ?_)) | (with_reducible first | refine Run.seq ?_ | refine Run.region ?_ | refine Run.block ?_ | refine Run.skip ?_ | refine Run.exit ?_ | refine Run.ret ?_) | (with_reducible show Run _ _ (.cond _ _ _) _ _ _; first | refine Run.condT rfl ?_ | refine Run.condF rfl ?_ | refine Run.condD rfl (fun h => ?_) (fun h => ?_) | refine Run.condND rfl (fun h => ?_) (fun h => ?_) | refine Run.condNB rfl (fun h => ?_) (fun h => ?_) | refine Run.cond rfl (fun h => ?_) (fun h => ?_)) | (with_reducible first | refine seqN (K := Run _ _ _ _) ?_ | refine seqE ?_ | refine seqR ?_ | refine blockN ?_ | refine blockR ?_ | refine blockE ?_) | (with_reducible refine blockX ?_ ?_; exact rfl))
    all_goals first
      | (exfalso; omega)
      | (refine ⟨eA, _, [A ys], resA, ?_, ?_⟩
         · exact SEnt.ch chA
         · exact ⟨ys, rfl, rfl, hmv, hseg.less (by omega)⟩)
end
end Go.Proofs.Ytodlpdedldhebaa
