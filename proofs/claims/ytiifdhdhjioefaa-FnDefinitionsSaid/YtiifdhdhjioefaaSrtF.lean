/- sort's steps: sort.swapRange_func, rotate_func, insertionSort_func. Proved for this program; conditions: places within the list. -/
import Derived.Test.YtiifdhdhjioefaaSrt
import Derived.Lib.ReflectliteSwap
import Derived.Laws.Externs
import Derived.KernelRfl
namespace Go.Proofs.Ytiifdhdhjioefaa
open Go Go.Proofs
set_option linter.unusedVariables false
section
variable {fl fs : FuncId} {vl vs : List Value} {A : List (List Int) → HP} {m : Nat}
set_option maxRecDepth 10000 in
set_option maxHeartbeats 2000000 in
theorem swapRange_c (hS : Srt Try.prog fl vl fs vs A m) (xs : List (List Int)) (hx : xs.length = m) (a b k : Int) (ha : 0 ≤ a) (hk : 1 ≤ k) (hab : a + k ≤ b) (hb : b + k ≤ m) :
    Spec Try.prog 215 [vagg (dat fl vl fs vs), vint a, vint b, vint k] [A xs] (fun r S' => ∃ ys, r = vtup [] ∧ S' = [A ys] ∧ Exch a.toNat b.toNat k.toNat xs ys) := by
  have hbig := hS.big
  refine Spec.of_run2 (n := 23) Try.func215 rfl Try.results215 Try.ntmps215 rfl ?_
  repeat' (first | (with_reducible refine RL.done ?_) | (with_reducible refine RL.wanted ?_ ?_; exact rfl) | ((with_reducible show RH _ _ _ ⟨some 4, .box _ _, _, _, _, _⟩ _ _ _ _); (refine RH.boxAgg rfl rfl ?_; rintro _ _ ⟨b4, rfl, rfl⟩)) | ((with_reducible show RH _ _ _ _ _ _ _ _); refine RH.val (hK := ?_)) | (with_reducible first | refine Run.seq ?_ | refine Run.region ?_ | refine Run.block ?_) | (with_reducible refine seqN (K := Run _ _ _ _) ?_))
  refine Run.loop (α := Nat × List (List Int)) (fun z => [(1, vint a), (2, vint b), (3, vint k), (4, vptr b4 0), (8, vint (z.1 : Int))]) (fun z => [A z.2, hcells b4 (dat fl vl fs vs)]) (fun z => z.1 ≤ k.toNat ∧ Exch a.toNat b.toNat z.1 xs z.2) (fun z => k.toNat - z.1) (0, xs) ⟨by omega, Exch.zero _ _ _⟩ (Ent.of slA chA) ?_
  rintro ⟨i, ys⟩ ⟨hi, he⟩
  (try dsimp only at hi he ⊢)
  have hy : ys.length = m := he.len.trans hx
  repeat' (first | (with_reducible refine RL.done ?_) | (with_reducible refine RL.wanted ?_ ?_; exact rfl) | ((with_reducible show RH _ _ _ ⟨_, .call ⟨.value (.tmp _), _, _⟩, _, _, _, _⟩ _ _ _ _); refine RH.eff rfl rfl (EOp.swap hS.swap rfl rfl rfl (by with_reducible repeat (first | exact Rem.head | apply Rem.tail)) hy (by omega) (by omega) (by omega) (by omega) (by omega)) ?_; rintro _ _ ⟨rfl, rfl⟩) | ((with_reducible show RH _ _ _ _ _ _ _ _); refine RH.val (hK := ?_)) | (with_reducible first | refine Run.seq ?_ | refine Run.region ?_ | refine Run.block ?_ | refine Run.skip ?_ | refine Run.exit ?_) | (with_reducible show Run _ _ (.cond _ _ _) _ _ _; refine Run.condD rfl (fun h => ?_) (fun h => ?_)) | (with_reducible first | refine seqN (K := Run _ _ _ _) ?_ | refine seqE ?_ | refine blockN ?_ | refine blockE ?_))
  all_goals first
    | (with_reducible refine seqN ?_
       refine ⟨(i + 1, _), ⟨by dsimp only; omega, ?_⟩, by dsimp only; omega, Ent.of slA chA⟩
       dsimp only
       rw [show (a + (i : Int)).toNat = a.toNat + i by omega, show (b + (i : Int)).toNat = b.toNat + i by omega]
       exact he.step (by omega) (by omega))
    | (have e : i = k.toNat := by omega
       subst e
       refine ⟨eA, _, [A ys], resA, ?_, ?_⟩
       · exact SEnt.ch chA
       · exact ⟨ys, rfl, rfl, he⟩)
set_option maxRecDepth 10000 in
set_option maxHeartbeats 2000000 in
theorem rotate_c (hS : Srt Try.prog fl vl fs vs A m) (xs : List (List Int)) (hx : xs.length = m) (a mm b : Int) (ha : 0 ≤ a) (ham : a < mm) (hmb : mm < b) (hb : b ≤ m) :
    Spec Try.prog 214 [vagg (dat fl vl fs vs), vint a, vint mm, vint b] [A xs] (fun r S' => ∃ ys, r = vtup [] ∧ S' = [A ys] ∧ Rot a.toNat mm.toNat b.toNat xs ys) := by
  have hbig := hS.big
  refine Spec.of_run2 (n := 53) Try.func214 rfl Try.results214 Try.ntmps214 rfl ?_
  repeat' (first | (with_reducible refine RL.done ?_) | (with_reducible refine RL.wanted ?_ ?_; exact rfl) | ((with_reducible show RH _ _ _ ⟨some 4, .box _ _, _, _, _, _⟩ _ _ _ _); (refine RH.boxAgg rfl rfl ?_; rintro _ _ ⟨b4, rfl, rfl⟩)) | ((with_reducible show RH _ _ _ _ _ _ _ _); refine RH.val (hK := ?_)) | (with_reducible first | refine Run.seq ?_ | refine Run.region ?_ | refine Run.block ?_) | (with_reducible refine seqN (K := Run _ _ _ _) ?_))
  refine Run.loop (α := Nat × Nat × List (List Int)) (fun z => [(1, vint a), (2, vint mm), (3, vint b), (4, vptr b4 0), (8, vint (z.1 : Int)), (9, vint (z.2.1 : Int))]) (fun z => [A z.2.2, hcells b4 (dat fl vl fs vs)]) (fun z => RotI a.toNat mm.toNat b.toNat z.1 z.2.1 xs z.2.2) (fun z => z.1 + z.2.1) (mm.toNat - a.toNat, b.toNat - mm.toNat, xs) (RotI.start (by omega) (by omega)) (Ent.of (by dsimp only; exact slA) chA) ?_
  rintro ⟨i, j, ys⟩ hI
  (try dsimp only at hI ⊢)
  have hy : ys.length = m := hI.len.trans hx
  have h1 := hI.lo; have h2 := hI.hi; have h3 := hI.pos
  repeat' (first | (with_reducible refine RL.done ?_) | (with_reducible refine RL.wanted ?_ ?_; exact rfl) | ((with_reducible show RH _ _ _ ⟨_, .call ⟨.value (.func 215), _, _⟩, _, _, _, _⟩ _ _ _ _); refine RH.cW Try.call215 ?_; refine ⟨_, _, _, (by repeat (first | exact Pick.nil | (apply Pick.cons; (with_reducible repeat (first | exact Rem.head | apply Rem.tail))))), swapRange_c hS ys hy _ _ _ (by omega) (by omega) (by omega) (by omega), ?_⟩; rintro _ _ ⟨zs, rfl, rfl, hz⟩; refine RL.nm ?_) | ((with_reducible show RH _ _ _ _ _ _ _ _); refine RH.val (hK := ?_)) | (with_reducible first | refine Run.seq ?_ | refine Run.region ?_ | refine Run.block ?_ | refine Run.skip ?_ | refine Run.exit ?_) | (with_reducible show Run _ _ (.cond _ _ _) _ _ _; refine Run.condD rfl (fun h => ?_) (fun h => ?_)) | (with_reducible first | refine seqN (K := Run _ _ _ _) ?_ | refine seqE ?_ | refine blockN ?_ | refine blockE ?_))
  all_goals first
    | (with_reducible refine seqN ?_
       refine ⟨(i - j, j, zs), ?_, by dsimp only; omega, Ent.of (by dsimp only; exact slA) chA⟩
       dsimp only
       rw [show (mm - (i : Int)).toNat = mm.toNat - i by omega, Int.toNat_natCast] at hz
       exact hI.big (by omega) (by omega) (by omega) (by omega) hz)
    | (with_reducible refine seqN ?_
       refine ⟨(i, j - i, zs), ?_, by dsimp only; omega, Ent.of (by dsimp only; exact slA) chA⟩
       dsimp only
       rw [show (mm - (i : Int)).toNat = mm.toNat - i by omega, show (mm + (j : Int) - (i : Int)).toNat = mm.toNat + j - i by omega, Int.toNat_natCast] at hz
       exact hI.small (by omega) (by omega) (by omega) (by omega) hz)
    | (have e : i = j := by omega
       subst e
       rw [show (mm - (i : Int)).toNat = mm.toNat - i by omega, Int.toNat_natCast] at hz
       refine ⟨eA, _, [A zs], resA, ?_, ?_⟩
       · exact SEnt.ch chA
       · exact ⟨zs, rfl, rfl, hI.last (by omega) (by omega) (by omega) hz⟩)
set_option maxRecDepth 10000 in
set_option maxHeartbeats 4000000 in
theorem insertionSort_c (hS : Srt Try.prog fl vl fs vs A m) (xs : List (List Int)) (hx : xs.length = m) (a b : Int) (ha : 0 ≤ a) (hab : a ≤ b) (hb : b ≤ m) :
    Spec Try.prog 212 [vagg (dat fl vl fs vs), vint a, vint b] [A xs] (fun r S' => ∃ ys, r = vtup [] ∧ S' = [A ys] ∧ Mrg leL a.toNat b.toNat xs ys) := by
  have hbig := hS.big
  refine Spec.of_run2 (n := 35) Try.func212 rfl Try.results212 Try.ntmps212 rfl ?_
  repeat' (first | (with_reducible refine RL.done ?_) | (with_reducible refine RL.wanted ?_ ?_; exact rfl) | ((with_reducible show RH _ _ _ ⟨some 3, .box _ _, _, _, _, _⟩ _ _ _ _); (refine RH.boxAgg rfl rfl ?_; rintro _ _ ⟨b3, rfl, rfl⟩)) | ((with_reducible show RH _ _ _ _ _ _ _ _); refine RH.val (hK := ?_)) | (with_reducible first | refine Run.seq ?_ | refine Run.region ?_ | refine Run.block ?_) | (with_reducible refine seqN (K := Run _ _ _ _) ?_))
  refine Run.loop (α := Nat × List (List Int)) (fun z => [(1, vint a), (2, vint b), (3, vptr b3 0), (6, vint (z.1 : Int))]) (fun z => [A z.2, hcells b3 (dat fl vl fs vs)]) (fun z => a.toNat + 1 ≤ z.1 ∧ SegS leL z.2 a.toNat z.1 ∧ Mv a.toNat b.toNat xs z.2) (fun z => b.toNat - z.1) (a.toNat + 1, xs) ⟨by dsimp only; omega, SegS.one _, Mv.refl _ _ _⟩ (Ent.of slA chA) ?_
  rintro ⟨i, ys⟩ ⟨hi, hseg, hmv⟩
  (try dsimp only at hi hseg hmv ⊢)
  by_cases hib : (i : Int) < b
  · repeat' (first | (with_reducible refine RL.done ?_) | (with_reducible refine RL.wanted ?_ ?_; exact rfl) | ((with_reducible show RH _ _ _ _ _ _ _ _); refine RH.val (hK := ?_)) | (with_reducible first | refine Run.seq ?_ | refine Run.region ?_ | refine Run.block ?_ | refine Run.skip ?_ | refine Run.exit ?_) | (with_reducible show Run _ _ (.cond _ _ _) _ _ _; refine Run.condD rfl (fun h => ?_) (fun h => ?_)) | (with_reducible first | refine seqN (K := Run _ _ _ _) ?_ | refine seqE ?_ | refine blockE ?_))
    all_goals first
      | (exfalso; omega)
      | skip
    refine Run.loop (α := Nat × List (List Int)) (fun z => [(1, vint a), (2, vint b), (3, vptr b3 0), (6, vint (i : Int)), (7, vint (z.1 : Int))]) (fun z => [A z.2, hcells b3 (dat fl vl fs vs)]) (fun z => a.toNat ≤ z.1 ∧ z.1 ≤ i ∧ InsI leL a.toNat i z.1 z.2 ∧ Mv a.toNat b.toNat xs z.2) (fun z => z.1) (i, ys) ⟨by dsimp only; omega, Nat.le_refl _, InsI.start hseg, hmv⟩ (Ent.of slA chA) ?_
    rintro ⟨j, zs⟩ ⟨hj1, hj2, hI, hm2⟩
    (try dsimp only at hj1 hj2 hI hm2 ⊢)
    have hy : zs.length = m := hm2.len.trans hx
    have e1 : ((j : Int) - 1).toNat = j - 1 := by omega
    repeat' (first | (with_reducible refine RL.done ?_) | (with_reducible refine RL.wanted ?_ ?_; exact rfl) | ((with_reducible show RH _ _ _ ⟨_, .call ⟨.value (.tmp _), _, _⟩, _, _, _, _⟩ _ _ _ _); refine RH.cC hS.less.enter ?_; refine ⟨_, _, _, (by repeat (first | exact Pick.nil | (apply Pick.cons; (with_reducible repeat (first | exact Rem.head | apply Rem.tail))))), hS.less.run _ _ _ hy (by omega) (by omega) (by omega) (by omega), ?_⟩; rintro _ _ ⟨rfl, rfl⟩; refine RL.nm ?_) | ((with_reducible show RH _ _ _ ⟨_, .call ⟨.value (.tmp _), _, _⟩, _, _, _, _⟩ _ _ _ _); refine RH.eff rfl rfl (EOp.swap hS.swap rfl rfl rfl (by with_reducible repeat (first | exact Rem.head | apply Rem.tail)) hy (by omega) (by omega) (by omega) (by omega) (by omega)) ?_; rintro _ _ ⟨rfl, rfl⟩) | ((with_reducible show RH _ _ _ _ _ _ _ _); refine RH.val (hK := ?_)) | (with_reducible show RL _ _ _ (_ :: _) _ _ _; first | refine RL.guardYes rfl rfl rfl rfl ?_ | refine RL.guardNoS rfl rfl rfl rfl rfl rfl ?_ | refine RL.splitD rfl rfl rfl (fun h => ?_) (fun h => ?_)) | (with_reducible first | refine Run.seq ?_ | refine Run.region ?_ | refine Run.block ?_ | refine Run.skip ?_ | refine Run.exit ?_) | (with_reducible show Run _ _ (.cond _ _ _) _ _ _; first | refine Run.condF rfl ?_ | refine Run.cond rfl (fun h => ?_) (fun h => ?_)) | (with_reducible first | refine seqN (K := Run _ _ _ _) ?_ | refine seqE ?_ | refine blockN ?_ | refine blockE ?_))
    all_goals first
      | (with_reducible refine seqN ?_
         refine ⟨(j - 1, _), ⟨by dsimp only; omega, by dsimp only; omega, ?_, ?_⟩, by dsimp only; omega, Ent.of slA chA⟩
         · dsimp only
           rw [e1, Int.toNat_natCast]
           exact hI.step (by omega) hj2 (by omega) (ltL_le (by rw [← e1]; assumption))
         · dsimp only
           rw [e1, Int.toNat_natCast]
           exact hm2.trans (Mv.swap (by omega) (by omega) (by omega) (by omega) (by omega)))
      | (with_reducible refine seqN ?_
         exact ⟨(i + 1, zs), ⟨by dsimp only; omega, hI.stop leL_trans hj2 (.inl (by omega)), hm2⟩, by dsimp only; omega, Ent.of slA chA⟩)
      | (with_reducible refine seqN ?_
         exact ⟨(i + 1, zs), ⟨by dsimp only; omega, hI.stop leL_trans hj2 (.inr (by rw [leL, ← e1]; assumption)), hm2⟩, by dsimp only; omega, Ent.of slA chA⟩)
  · repeat' (first | (with_reducible refine RL.done ?_) | (with_reducible refine RL.wanted ?_ ?_; exact rfl) | ((with_reducible show RH _ _ _ _ _ _ _ _); refine RH.val (hK := ?_)) | (with_reducible first | refine Run.seq ?_ | refine Run.region ?_ | refine Run.block ?_ | refine Run.skip ?_ | refine Run.exit ?_) | (with_reducible show Run _ _ (.cond _ _ _) _ _ _; refine Run.condD rfl (fun h => ?_) (fun h => ?_)) | (with_reducible first | refine seqN (K := Run _ _ _ _) ?_ | refine seqE ?_ | refine blockE ?_))
    all_goals first
      | (exfalso; omega)
      | (refine ⟨eA, _, [A ys], resA, ?_, ?_⟩
         · exact SEnt.ch chA
         · exact ⟨ys, rfl, rfl, hmv, hseg.less (by omega)⟩)
end
end Go.Proofs.Ytiifdhdhjioefaa

/- sort's merge: sort.symMerge_func. Proved for this program; conditions: places within the list, both blocks in order. -/
namespace Go.Proofs.Ytiifdhdhjioefaa
open Go Go.Proofs
set_option linter.unusedVariables false
section
variable {fl fs : FuncId} {vl vs : List Value} {A : List (List Int) → HP} {m : Nat}
set_option maxRecDepth 10000 in
set_option maxHeartbeats 8000000 in
theorem symMerge_c (hS : Srt Try.prog fl vl fs vs A m) : ∀ (d : Nat) (xs : List (List Int)) (hy : xs.length = m) (a mm b : Int) (ha : 0 ≤ a) (ham : a < mm) (hmb : mm < b) (hb : b ≤ m) (hd : b.toNat - a.toNat < d) (hX : SegS leL xs a.toNat mm.toNat) (hY : SegS leL xs mm.toNat b.toNat),
    Spec Try.prog 213 [vagg (dat fl vl fs vs), vint a, vint mm, vint b] [A xs] (fun r S' => ∃ ys, r = vtup [] ∧ S' = [A ys] ∧ Mrg leL a.toNat b.toNat xs ys)
  | 0, xs, hy, a, mm, b, ha, ham, hmb, hb, hd, hX, hY => by omega
  | d + 1, xs, hy, a, mm, b, ha, ham, hmb, hb, hd, hX, hY => by
    have ih := symMerge_c hS d
    have hbig := hS.big
    by_cases h1 : mm - a = 1
    · -- one element at the head
      refine Spec.of_run2 (n := 177) Try.func213 rfl Try.results213 Try.ntmps213 rfl ?_
      repeat' (first | (with_reducible refine RL.done ?_) | (with_reducible refine RL.wanted ?_ ?_; exact rfl) | ((with_reducible show RH _ _ _ ⟨some 4, .box _ _, _, _, _, _⟩ _ _ _ _); (refine RH.boxAgg rfl rfl ?_; rintro _ _ ⟨b4, rfl, rfl⟩)) | ((with_reducible show RH _ _ _ _ _ _ _ _); refine RH.val (hK := ?_)) | (with_reducible first | refine Run.seq ?_ | refine Run.region ?_ | refine Run.block ?_ | refine Run.skip ?_) | (with_reducible show Run _ _ (.cond _ _ _) _ _ _; refine Run.condD rfl (fun h => ?_) (fun h => ?_)) | (with_reducible refine seqN (K := Run _ _ _ _) ?_))
      all_goals first
        | (exfalso; omega)
        | skip
      refine Run.loop (α := Nat × Nat) (fun z => [(1, vint a), (2, vint mm), (3, vint b), (4, vptr b4 0), (8, vint (z.1 : Int)), (9, vint (z.2 : Int))]) (fun z => [A xs, hcells b4 (dat fl vl fs vs)]) (fun z => mm.toNat ≤ z.1 ∧ z.1 ≤ z.2 ∧ z.2 ≤ b.toNat ∧ (z.1 = mm.toNat ∨ leL (at' xs (z.1 - 1)) (at' xs a.toNat)) ∧ (z.2 = b.toNat ∨ leL (at' xs a.toNat) (at' xs z.2))) (fun z => z.2 - z.1) (mm.toNat, b.toNat) ⟨Nat.le_refl _, by dsimp only; omega, Nat.le_refl _, .inl rfl, .inl rfl⟩ (Ent.of (by dsimp only; exact slA) chA) ?_
      rintro ⟨i, j⟩ ⟨hi, hij, hj, hc1, hc2⟩
      (try dsimp only at hi hij hj hc1 hc2 ⊢)
      by_cases hlt : i < j
      · have em : (((i : Int) + (j : Int)) / 2).toNat = (i + j) / 2 := by omega
        repeat' (first | (with_reducible refine RL.done ?_) | (with_reducible refine RL.wanted ?_ ?_; exact rfl) | ((with_reducible show RH _ _ _ ⟨_, .call ⟨.value (.tmp _), _, _⟩, _, _, _, _⟩ _ _ _ _); refine RH.cC hS.less.enter ?_; refine ⟨_, _, _, (by repeat (first | exact Pick.nil | (apply Pick.cons; (with_reducible repeat (first | exact Rem.head | apply Rem.tail))))), hS.less.run _ _ _ hy (by omega) (by omega) (by omega) (by omega), ?_⟩; rintro _ _ ⟨rfl, rfl⟩; refine RL.nm ?_) | ((with_reducible show RH _ _ _ _ _ _ _ _); refine RH.val (hK := ?_)) | (with_reducible first | refine Run.seq ?_ | refine Run.region ?_ | refine Run.block ?_ | refine Run.skip ?_ | refine Run.exit ?_) | (with_reducible show Run _ _ (.cond _ _ _) _ _ _; first | refine Run.condD rfl (fun h => ?_) (fun h => ?_) | refine Run.cond rfl (fun h => ?_) (fun h => ?_)) | (with_reducible first | refine seqN (K := Run _ _ _ _) ?_ | refine seqE ?_ | refine blockN ?_ | refine blockE ?_))
        all_goals first
          | (exfalso; omega)
          | (with_reducible refine seqN ?_
             refine ⟨((i + j) / 2 + 1, j), ⟨by dsimp only; omega, by dsimp only; omega, hj, .inr ?_, hc2⟩, by dsimp only; omega, Ent.of (by dsimp only; exact slA) chA⟩
             dsimp only
             rw [Nat.add_sub_cancel, ← em]
             exact ltL_le (by assumption))
          | (with_reducible refine seqN ?_
             refine ⟨(i, (i + j) / 2), ⟨hi, by dsimp only; omega, by dsimp only; omega, hc1, .inr ?_⟩, by dsimp only; omega, Ent.of (by dsimp only; exact slA) chA⟩
             dsimp only
             rw [← em, leL]
             assumption)
      · obtain rfl : i = j := by omega
        repeat' (first | (with_reducible refine RL.done ?_) | (with_reducible refine RL.wanted ?_ ?_; exact rfl) | ((with_reducible show RH _ _ _ _ _ _ _ _); refine RH.val (hK := ?_)) | (with_reducible first | refine Run.seq ?_ | refine Run.region ?_ | refine Run.block ?_ | refine Run.skip ?_ | refine Run.exit ?_) | (with_reducible show Run _ _ (.cond _ _ _) _ _ _; refine Run.condD rfl (fun h => ?_) (fun h => ?_)) | (with_reducible first | refine seqN (K := Run _ _ _ _) ?_ | refine seqE ?_ | refine blockE ?_))
        all_goals first
          | (exfalso; omega)
          | skip
        refine Run.loop (α := Nat × List (List Int)) (fun z => [(4, vptr b4 0), (8, vint (i : Int)), (11, vint (z.1 : Int))]) (fun z => [A z.2, hcells b4 (dat fl vl fs vs)]) (fun z => a.toNat ≤ z.1 ∧ z.1 ≤ i - 1 ∧ Shl a.toNat z.1 xs z.2) (fun z => i - 1 - z.1) (a.toNat, xs) ⟨Nat.le_refl _, by dsimp only; omega, Shl.zero _ _⟩ (Ent.of (by dsimp only; exact slA) chA) ?_
        rintro ⟨k, ys⟩ ⟨hk1, hk2, hsh⟩
        (try dsimp only at hk1 hk2 hsh ⊢)
        have hx := hy
        have hy : ys.length = m := hsh.mv.len.trans hx
        repeat' (first | (with_reducible refine RL.done ?_) | (with_reducible refine RL.wanted ?_ ?_; exact rfl) | ((with_reducible show RH _ _ _ ⟨_, .call ⟨.value (.tmp _), _, _⟩, _, _, _, _⟩ _ _ _ _); refine RH.eff rfl rfl (EOp.swap hS.swap rfl rfl rfl (by with_reducible repeat (first | exact Rem.head | apply Rem.tail)) hy (by omega) (by omega) (by omega) (by omega) (by omega)) ?_; rintro _ _ ⟨rfl, rfl⟩) | ((with_reducible show RH _ _ _ _ _ _ _ _); refine RH.val (hK := ?_)) | (with_reducible first | refine Run.seq ?_ | refine Run.region ?_ | refine Run.block ?_ | refine Run.skip ?_ | refine Run.exit ?_ | refine Run.ret ?_) | (with_reducible show Run _ _ (.cond _ _ _) _ _ _; refine Run.condD rfl (fun h => ?_) (fun h => ?_)) | (with_reducible first | refine seqN (K := Run _ _ _ _) ?_ | refine seqE ?_ | refine seqR ?_ | refine blockN ?_ | refine blockE ?_))
        all_goals first
          | (with_reducible refine seqN ?_
             refine ⟨(k + 1, _), ⟨by dsimp only; omega, by dsimp only; omega, ?_⟩, by dsimp only; omega, Ent.of (by dsimp only; exact slA) chA⟩
             dsimp only
             rw [Int.toNat_natCast, show ((k : Int) + 1).toNat = k + 1 by omega]
             exact hsh.step hk1 (by omega))
          | (obtain rfl : k = i - 1 := by omega
             refine ⟨eA, _, [A ys], resA, ?_, ?_⟩
             · exact SEnt.ch chA
             · exact ⟨ys, rfl, rfl, shl_fin (by omega) hY hi hj hc1 hc2 hsh⟩)
    · by_cases h2 : b - mm = 1
      · -- one element at the end
        refine Spec.of_run2 (n := 177) Try.func213 rfl Try.results213 Try.ntmps213 rfl ?_
        repeat' (first | (with_reducible refine RL.done ?_) | (with_reducible refine RL.wanted ?_ ?_; exact rfl) | ((with_reducible show RH _ _ _ ⟨some 4, .box _ _, _, _, _, _⟩ _ _ _ _); (refine RH.boxAgg rfl rfl ?_; rintro _ _ ⟨b4, rfl, rfl⟩)) | ((with_reducible show RH _ _ _ _ _ _ _ _); refine RH.val (hK := ?_)) | (with_reducible first | refine Run.seq ?_ | refine Run.region ?_ | refine Run.block ?_ | refine Run.skip ?_) | (with_reducible show Run _ _ (.cond _ _ _) _ _ _; refine Run.condD rfl (fun h => ?_) (fun h => ?_)) | (with_reducible refine seqN (K := Run _ _ _ _) ?_))
        all_goals first
          | (exfalso; omega)
          | skip
        refine Run.loop (α := Nat × Nat) (fun z => [(1, vint a), (2, vint mm), (3, vint b), (4, vptr b4 0), (12, vint (z.1 : Int)), (13, vint (z.2 : Int))]) (fun z => [A xs, hcells b4 (dat fl vl fs vs)]) (fun z => a.toNat ≤ z.1 ∧ z.1 ≤ z.2 ∧ z.2 ≤ mm.toNat ∧ (z.1 = a.toNat ∨ leL (at' xs (z.1 - 1)) (at' xs mm.toNat)) ∧ (z.2 = mm.toNat ∨ leL (at' xs mm.toNat) (at' xs z.2))) (fun z => z.2 - z.1) (a.toNat, mm.toNat) ⟨Nat.le_refl _, by dsimp only; omega, Nat.le_refl _, .inl rfl, .inl rfl⟩ (Ent.of (by dsimp only; exact slA) chA) ?_
        rintro ⟨i, j⟩ ⟨hi, hij, hj, hc1, hc2⟩
        (try dsimp only at hi hij hj hc1 hc2 ⊢)
        by_cases hlt : i < j
        · have em : (((i : Int) + (j : Int)) / 2).toNat = (i + j) / 2 := by omega
          repeat' (first | (with_reducible refine RL.done ?_) | (with_reducible refine RL.wanted ?_ ?_; exact rfl) | ((with_reducible show RH _ _ _ ⟨_, .call ⟨.value (.tmp _), _, _⟩, _, _, _, _⟩ _ _ _ _); refine RH.cC hS.less.enter ?_; refine ⟨_, _, _, (by repeat (first | exact Pick.nil | (apply Pick.cons; (with_reducible repeat (first | exact Rem.head | apply Rem.tail))))), hS.less.run _ _ _ hy (by omega) (by omega) (by omega) (by omega), ?_⟩; rintro _ _ ⟨rfl, rfl⟩; refine RL.nm ?_) | ((with_reducible show RH _ _ _ _ _ _ _ _); refine RH.val (hK := ?_)) | (with_reducible first | refine Run.seq ?_ | refine Run.region ?_ | refine Run.block ?_ | refine Run.skip ?_ | refine Run.exit ?_) | (with_reducible show Run _ _ (.cond _ _ _) _ _ _; first | refine Run.condD rfl (fun h => ?_) (fun h => ?_) | refine Run.condNB rfl (fun h => ?_) (fun h => ?_)) | (with_reducible first | refine seqN (K := Run _ _ _ _) ?_ | refine seqE ?_ | refine blockN ?_ | refine blockE ?_))
          all_goals first
            | (exfalso; omega)
            | (with_reducible refine seqN ?_
               refine ⟨((i + j) / 2 + 1, j), ⟨by dsimp only; omega, by dsimp only; omega, hj, .inr ?_, hc2⟩, by dsimp only; omega, Ent.of (by dsimp only; exact slA) chA⟩
               dsimp only
               rw [Nat.add_sub_cancel, ← em, leL]
               assumption)
            | (with_reducible refine seqN ?_
               refine ⟨(i, (i + j) / 2), ⟨hi, by dsimp only; omega, by dsimp only; omega, hc1, .inr ?_⟩, by dsimp only; omega, Ent.of (by dsimp only; exact slA) chA⟩
               dsimp only
               rw [← em]
               exact ltL_le (by assumption))
        · obtain rfl : i = j := by omega
          repeat' (first | (with_reducible refine RL.done ?_) | (with_reducible refine RL.wanted ?_ ?_; exact rfl) | ((with_reducible show RH _ _ _ _ _ _ _ _); refine RH.val (hK := ?_)) | (with_reducible first | refine Run.seq ?_ | refine Run.region ?_ | refine Run.block ?_ | refine Run.skip ?_ | refine Run.exit ?_) | (with_reducible show Run _ _ (.cond _ _ _) _ _ _; refine Run.condD rfl (fun h => ?_) (fun h => ?_)) | (with_reducible first | refine seqN (K := Run _ _ _ _) ?_ | refine seqE ?_ | refine blockE ?_))
          all_goals first
            | (exfalso; omega)
            | skip
          refine Run.loop (α := Nat × List (List Int)) (fun z => [(4, vptr b4 0), (12, vint (i : Int)), (15, vint (z.1 : Int))]) (fun z => [A z.2, hcells b4 (dat fl vl fs vs)]) (fun z => i ≤ z.1 ∧ z.1 ≤ mm.toNat ∧ Shr z.1 mm.toNat xs z.2) (fun z => z.1) (mm.toNat, xs) ⟨by dsimp only; omega, Nat.le_refl _, Shr.zero _ _⟩ (Ent.of (by dsimp only; exact slA) chA) ?_
          rintro ⟨k, ys⟩ ⟨hk1, hk2, hsh⟩
          (try dsimp only at hk1 hk2 hsh ⊢)
          have hx := hy
          have hy : ys.length = m := hsh.mv.len.trans hx
          repeat' (first | (with_reducible refine RL.done ?_) | (with_reducible refine RL.wanted ?_ ?_; exact rfl) | ((with_reducible show RH _ _ _ ⟨_, .call ⟨.value (.tmp _), _, _⟩, _, _, _, _⟩ _ _ _ _); refine RH.eff rfl rfl (EOp.swap hS.swap rfl rfl rfl (by with_reducible repeat (first | exact Rem.head | apply Rem.tail)) hy (by omega) (by omega) (by omega) (by omega) (by omega)) ?_; rintro _ _ ⟨rfl, rfl⟩) | ((with_reducible show RH _ _ _ _ _ _ _ _); refine RH.val (hK := ?_)) | (with_reducible first | refine Run.seq ?_ | refine Run.region ?_ | refine Run.block ?_ | refine Run.skip ?_ | refine Run.exit ?_ | refine Run.ret ?_) | (with_reducible show Run _ _ (.cond _ _ _) _ _ _; refine Run.condD rfl (fun h => ?_) (fun h => ?_)) | (with_reducible first | refine seqN (K := Run _ _ _ _) ?_ | refine seqE ?_ | refine seqR ?_ | refine blockN ?_ | refine blockE ?_))
          all_goals first
            | (with_reducible refine seqN ?_
               refine ⟨(k - 1, _), ⟨by dsimp only; omega, by dsimp only; omega, ?_⟩, by dsimp only; omega, Ent.of (by dsimp only; exact slA) chA⟩
               dsimp only
               rw [Int.toNat_natCast, show ((k : Int) - 1).toNat = k - 1 by omega]
               exact hsh.step (by omega) hk2 (by omega))
            | (obtain rfl : k = i := by omega
               refine ⟨eA, _, [A ys], resA, ?_, ?_⟩
               · exact SEnt.ch chA
               · rw [show b.toNat = mm.toNat + 1 by omega]
                 exact ⟨ys, rfl, rfl, shr_fin hX hi hj hc1 hc2 hsh⟩)
      · -- both blocks have two elements or more
        obtain ⟨mid, hmid⟩ : ∃ mid : Nat, (a + b) / 2 = (mid : Int) := ⟨((a + b) / 2).toNat, by omega⟩
        have hm1 : a.toNat < mid := by omega
        have hm2 : mid < b.toNat := by omega
        obtain ⟨s0, r0, h5⟩ : ∃ s0 r0 : Nat, (mid < mm.toNat ∧ (s0 : Int) = mid + mm - b ∧ r0 = mid) ∨ (mm.toNat ≤ mid ∧ s0 = a.toNat ∧ r0 = mm.toNat) := by
          by_cases c : mid < mm.toNat
          · exact ⟨mid + mm.toNat - b.toNat, mid, .inl ⟨c, by omega, rfl⟩⟩
          · exact ⟨a.toNat, mm.toNat, .inr ⟨by omega, rfl, rfl⟩⟩
        refine Spec.of_run2 (n := 177) Try.func213 rfl Try.results213 Try.ntmps213 rfl ?_
        repeat' (first | (with_reducible refine RL.done ?_) | (with_reducible refine RL.wanted ?_ ?_; exact rfl) | ((with_reducible show Run _ _ (.cond (.tmp 106) _ _) (Post.seq _ _) _ _); refine Run.cut (α := Unit) (fun _ => [(1, vint a), (2, vint mm), (3, vint b), (4, vptr b4 0), (16, vint (mid : Int)), (17, vint ((mid : Int) + mm)), (18, vint (s0 : Int)), (19, vint (r0 : Int))]) (fun _ => [A xs, hcells b4 (dat fl vl fs vs)]) (fun _ => True) ?_ ?_; rotate_left; rintro _ -; (try dsimp only)) | ((with_reducible show RH _ _ _ ⟨some 4, .box _ _, _, _, _, _⟩ _ _ _ _); (refine RH.boxAgg rfl rfl ?_; rintro _ _ ⟨b4, rfl, rfl⟩)) | ((with_reducible show RH _ _ _ _ _ _ _ _); refine RH.val (hK := ?_)) | (with_reducible first | refine Run.seq ?_ | refine Run.region ?_ | refine Run.block ?_ | refine Run.skip ?_) | (with_reducible show Run _ _ (.cond _ _ _) _ _ _; refine Run.condD rfl (fun h => ?_) (fun h => ?_)) | (with_reducible refine seqN (K := Run _ _ _ _) ?_))
        all_goals first
          | (exfalso; omega)
          | exact Met.mk () trivial (Ent.of slA chA)
          | skip
        refine Run.loop (α := Nat × Nat) (fun z => [(1, vint a), (2, vint mm), (3, vint b), (4, vptr b4 0), (16, vint (mid : Int)), (17, vint ((mid : Int) + mm)), (18, vint (z.1 : Int)), (19, vint (z.2 : Int)), (20, vint ((mid : Int) + mm - 1))]) (fun z => [A xs, hcells b4 (dat fl vl fs vs)]) (fun z => s0 ≤ z.1 ∧ z.1 ≤ z.2 ∧ z.2 ≤ r0 ∧ (z.1 = s0 ∨ leL (at' xs (z.1 - 1)) (at' xs (mid + mm.toNat - z.1))) ∧ (z.2 = r0 ∨ leL (at' xs (mid + mm.toNat - 1 - z.2)) (at' xs z.2))) (fun z => z.2 - z.1) (s0, r0) ⟨Nat.le_refl _, by dsimp only; omega, Nat.le_refl _, .inl rfl, .inl rfl⟩ (Ent.of (by dsimp only; exact slA) chA) ?_
        rintro ⟨i, j⟩ ⟨hi, hij, hj, hc1, hc2⟩
        (try dsimp only at hi hij hj hc1 hc2 ⊢)
        by_cases hlt : i < j
        · have em : ((mid : Int) + mm - 1 - ((i : Int) + (j : Int)) / 2).toNat = mid + mm.toNat - 1 - (i + j) / 2 := by omega
          have em2 : (((i : Int) + (j : Int)) / 2).toNat = (i + j) / 2 := by omega
          repeat' (first | (with_reducible refine RL.done ?_) | (with_reducible refine RL.wanted ?_ ?_; exact rfl) | ((with_reducible show RH _ _ _ ⟨_, .call ⟨.value (.tmp _), _, _⟩, _, _, _, _⟩ _ _ _ _); refine RH.cC hS.less.enter ?_; refine ⟨_, _, _, (by repeat (first | exact Pick.nil | (apply Pick.cons; (with_reducible repeat (first | exact Rem.head | apply Rem.tail))))), hS.less.run _ _ _ hy (by omega) (by omega) (by omega) (by omega), ?_⟩; rintro _ _ ⟨rfl, rfl⟩; refine RL.nm ?_) | ((with_reducible show RH _ _ _ _ _ _ _ _); refine RH.val (hK := ?_)) | (with_reducible show RL _ _ _ (_ :: _) _ _ _; first | refine RL.guardYes rfl rfl rfl rfl ?_ | refine RL.guardNoS rfl rfl rfl rfl rfl rfl ?_ | refine RL.splitD rfl rfl rfl (fun h => ?_) (fun h => ?_)) | (with_reducible first | refine Run.seq ?_ | refine Run.region ?_ | refine Run.block ?_ | refine Run.skip ?_ | refine Run.exit ?_) | (with_reducible show Run _ _ (.cond _ _ _) _ _ _; first | refine Run.condF rfl ?_ | refine Run.condD rfl (fun h => ?_) (fun h => ?_) | refine Run.condNB rfl (fun h => ?_) (fun h => ?_)) | (with_reducible first | refine seqN (K := Run _ _ _ _) ?_ | refine seqE ?_ | refine blockN ?_ | refine blockE ?_))
          all_goals first
            | (exfalso; omega)
            | (with_reducible refine seqN ?_
               refine ⟨((i + j) / 2 + 1, j), ⟨by dsimp only; omega, by dsimp only; omega, hj, .inr ?_, hc2⟩, by dsimp only; omega, Ent.of (by dsimp only; exact slA) chA⟩
               dsimp only
               rw [Nat.add_sub_cancel, show mid + mm.toNat - ((i + j) / 2 + 1) = mid + mm.toNat - 1 - (i + j) / 2 by omega, ← em, ← em2, leL]
               assumption)
            | (with_reducible refine seqN ?_
               refine ⟨(i, (i + j) / 2), ⟨hi, by dsimp only; omega, by dsimp only; omega, hc1, .inr ?_⟩, by dsimp only; omega, Ent.of (by dsimp only; exact slA) chA⟩
               dsimp only
               rw [← em, ← em2]
               exact ltL_le (by assumption))
        · obtain rfl : i = j := by omega
          have ee : ((mid : Int) + mm - (i : Int)).toNat = mid + mm.toNat - i := by omega
          have c1 : (i : Int).toNat = a.toNat ∨ ((mid : Int) + mm - (i : Int)).toNat = b.toNat ∨ leL (at' xs ((i : Int).toNat - 1)) (at' xs ((mid : Int) + mm - (i : Int)).toNat) := by
            rw [ee, Int.toNat_natCast]
            rcases hc1 with e | e
            · rcases h5 with q | q
              · exact .inr (.inl (by omega))
              · exact .inl (by omega)
            · exact .inr (.inr e)
          have c2 : (i : Int).toNat = mm.toNat ∨ ((mid : Int) + mm - (i : Int)).toNat = mm.toNat ∨ leL (at' xs (((mid : Int) + mm - (i : Int)).toNat - 1)) (at' xs (i : Int).toNat) := by
            rw [ee, Int.toNat_natCast]
            rcases hc2 with e | e
            · rcases h5 with q | q
              · exact .inr (.inl (by omega))
              · exact .inl (by omega)
            · exact .inr (.inr (by rw [show mid + mm.toNat - i - 1 = mid + mm.toNat - 1 - i by omega]; exact e))
          repeat' (first | (with_reducible refine RL.done ?_) | (with_reducible refine RL.wanted ?_ ?_; exact rfl) | ((with_reducible show Run _ _ (.cond (.tmp 145) _ _) (Post.seq _ _) _ _); refine Run.cut (α := List (List Int)) (fun _ => [(1, vint a), (3, vint b), (4, vptr b4 0), (16, vint (mid : Int)), (18, vint (i : Int)), (22, vint ((mid : Int) + mm - (i : Int)))]) (fun ys => [A ys, hcells b4 (dat fl vl fs vs)]) (fun ys => Rot (i : Int).toNat mm.toNat ((mid : Int) + mm - (i : Int)).toNat xs ys) ?_ ?_; rotate_left; rintro ys hrot; (try dsimp only); have hyl : ys.length = m := hrot.mv.len.trans hy; obtain ⟨hlo1, hlo2, hhi01, hhi02⟩ := merge_low (mid := mid) hX hY (by omega) (by omega) (by omega) (by omega) (by omega) hrot) | ((with_reducible show Run _ _ (.cond (.tmp 158) _ _) (Post.seq _ _) _ _); refine Run.cut (α := List (List Int)) (fun _ => [(3, vint b), (4, vptr b4 0), (16, vint (mid : Int)), (22, vint ((mid : Int) + mm - (i : Int)))]) (fun zs => [A zs, hcells b4 (dat fl vl fs vs)]) (fun zs => Mrg leL a.toNat mid ys zs) ?_ ?_; rotate_left; rintro zs hlo; (try dsimp only); have hzl : zs.length = m := hlo.mv.len.trans hyl; have hhi1 := hhi01.keep hlo.mv (.inr (Nat.le_refl _)); have hhi2 := hhi02.keep hlo.mv (.inr (by omega))) | ((with_reducible show RH _ _ _ ⟨_, .call ⟨.value (.func 214), _, _⟩, _, _, _, _⟩ _ _ _ _); refine RH.cW Try.call214 ?_; refine ⟨_, _, _, (by repeat (first | exact Pick.nil | (apply Pick.cons; (with_reducible repeat (first | exact Rem.head | apply Rem.tail))))), rotate_c hS xs hy _ _ _ (by omega) (by omega) (by omega) (by omega), ?_⟩; rintro _ _ ⟨ys, rfl, rfl, hrot⟩; refine RL.nm ?_) | ((with_reducible show RH _ _ _ ⟨_, .call ⟨.value (.func 213), _, _⟩, _, _, _, _⟩ _ _ _ _); refine RH.cW Try.call213 ?_; refine ⟨_, _, _, (by repeat (first | exact Pick.nil | (apply Pick.cons; (with_reducible repeat (first | exact Rem.head | apply Rem.tail))))), ih ys hyl _ _ _ (by omega) (by omega) (by omega) (by omega) (by omega) hlo1 hlo2, ?_⟩; rintro _ _ ⟨zs, rfl, rfl, hlo⟩; refine RL.nm ?_) | ((with_reducible show RH _ _ _ ⟨_, .call ⟨.value (.func 213), _, _⟩, _, _, _, _⟩ _ _ _ _); refine RH.cW Try.call213 ?_; refine ⟨_, _, _, (by repeat (first | exact Pick.nil | (apply Pick.cons; (with_reducible repeat (first | exact Rem.head | apply Rem.tail))))), ih zs hzl _ _ _ (by omega) (by omega) (by omega) (by omega) (by omega) hhi1 hhi2, ?_⟩; rintro _ _ ⟨ws, rfl, rfl, hhi⟩; refine RL.nm ?_) | ((with_reducible show RH _ _ _ _ _ _ _ _); refine RH.val (hK := ?_)) | (with_reducible show RL _ _ _ (_ :: _) _ _ _; first | refine RL.guardYes rfl rfl rfl rfl ?_ | refine RL.guardNoS rfl rfl rfl rfl rfl rfl ?_ | refine RL.splitD rfl rfl rfl (fun h => ?_) (fun h => ?_)) | (with_reducible first | refine Run.seq ?_ | refine Run.region ?_ | refine Run.block ?_ | refine Run.skip ?_ | refine Run.exit ?_) | (with_reducible show Run _ _ (.cond _ _ _) _ _ _; first | refine Run.condF rfl ?_ | refine Run.condD rfl (fun h => ?_) (fun h => ?_)) | (with_reducible first | refine seqN (K := Run _ _ _ _) ?_ | refine seqE ?_ | refine blockE ?_))
          all_goals first
            | (exfalso; omega)
            | exact Met.mk ys hrot (Ent.of slA chA)
            | exact Met.mk xs (Rot.none _ (by omega) (by omega) (by omega)) (Ent.of slA chA)
            | exact Met.mk zs hlo (Ent.of slA chA)
            | exact Met.mk ys ⟨.refl _ _ _, hlo1.join hlo2 (by omega)⟩ (Ent.of slA chA)
            | (refine ⟨eA, _, [A ws], resA, ?_, ?_⟩
               · exact SEnt.ch chA
               · exact ⟨ws, rfl, rfl, merge_parts leL_trans hX hY (by omega) (by omega) (by omega) (by omega) (by omega) (by omega) c1 c2 hrot hlo hhi⟩)
            | (refine ⟨eA, _, [A zs], resA, ?_, ?_⟩
               · exact SEnt.ch chA
               · exact ⟨zs, rfl, rfl, merge_parts leL_trans hX hY (by omega) (by omega) (by omega) (by omega) (by omega) (by omega) c1 c2 hrot hlo ⟨.refl _ _ _, hhi1.join hhi2 (by omega)⟩⟩)
end
end Go.Proofs.Ytiifdhdhjioefaa

/- sort's stable sort: sort.stable_func. Proved for this program; conditions: as many elements as are told, at most a million. -/
namespace Go.Proofs.Ytiifdhdhjioefaa
open Go Go.Proofs
set_option linter.unusedVariables false
theorem dvd_lt {d p a : Nat} (hp : d ∣ p) (ha : d ∣ a) (h : p < a) : p + d ≤ a := by
  obtain ⟨u, rfl⟩ := hp
  obtain ⟨v, rfl⟩ := ha
  have : u < v := Nat.lt_of_mul_lt_mul_left h
  calc d * u + d = d * (u + 1) := by rw [Nat.mul_add, Nat.mul_one]
    _ ≤ d * v := Nat.mul_le_mul_left d this
/-- all blocks of a size are in order -/
def AllB (m bs : Nat) (ys : List (List Int)) : Prop := ∀ p, bs ∣ p → SegS leL ys p (min (p + bs) m)
/-- the blocks below a are in order -/
structure Fst (m bs a : Nat) (ys : List (List Int)) : Prop where
  dv : bs ∣ a
  lo : ∀ p, bs ∣ p → p < a → SegS leL ys p (min (p + bs) m)
theorem Fst.zero (m bs : Nat) (ys : List (List Int)) : Fst m bs 0 ys := ⟨⟨0, rfl⟩, fun p _ h => by omega⟩
theorem Fst.step {m bs a : Nat} {ys zs : List (List Int)} (h : Fst m bs a ys) (hz : Mrg leL a (a + bs) ys zs) : Fst m bs (a + bs) zs := by
  refine ⟨Nat.dvd_add h.dv ⟨1, by rw [Nat.mul_one]⟩, fun p hp hlt => ?_⟩
  rcases Nat.lt_trichotomy p a with c | rfl | c
  · have := dvd_lt hp h.dv c
    exact (h.lo p hp c).keep hz.mv (.inl (by omega))
  · exact hz.seg.less (by omega)
  · have := dvd_lt h.dv hp c
    omega
theorem Fst.last {m bs a : Nat} {ys zs : List (List Int)} (h : Fst m bs a ys) (ha : a ≤ m) (hb : m < a + bs) (hz : Mrg leL a m ys zs) : AllB m bs zs := fun p hp => by
  rcases Nat.lt_trichotomy p a with c | rfl | c
  · have := dvd_lt hp h.dv c
    exact (h.lo p hp c).keep hz.mv (.inl (by omega))
  · exact hz.seg.less (by omega)
  · have := dvd_lt h.dv hp c
    intro i j h1 h2 h3
    omega
/-- the blocks below a are merged two by two -/
structure Half (m bs a : Nat) (ys : List (List Int)) : Prop where
  dv : 2 * bs ∣ a
  lo : ∀ p, 2 * bs ∣ p → p < a → SegS leL ys p (min (p + 2 * bs) m)
  hi : ∀ p, bs ∣ p → a ≤ p → SegS leL ys p (min (p + bs) m)
theorem Half.zero {m bs : Nat} {ys : List (List Int)} (h : AllB m bs ys) : Half m bs 0 ys := ⟨⟨0, rfl⟩, fun p _ h => by omega, fun p hp _ => h p hp⟩
theorem Half.dv1 {m bs a : Nat} {ys : List (List Int)} (h : Half m bs a ys) : bs ∣ a := Nat.dvd_trans ⟨2, by omega⟩ h.dv
theorem Half.one {m bs a : Nat} {ys : List (List Int)} (h : Half m bs a ys) : SegS leL ys a (min (a + bs) m) := h.hi a h.dv1 (Nat.le_refl _)
theorem Half.two {m bs a : Nat} {ys : List (List Int)} (h : Half m bs a ys) : SegS leL ys (a + bs) (min (a + bs + bs) m) := h.hi (a + bs) (Nat.dvd_add h.dv1 ⟨1, by rw [Nat.mul_one]⟩) (by omega)
theorem Half.step {m bs a : Nat} {ys zs : List (List Int)} (h : Half m bs a ys) (hz : Mrg leL a (a + 2 * bs) ys zs) : Half m bs (a + 2 * bs) zs := by
  refine ⟨Nat.dvd_add h.dv ⟨1, by rw [Nat.mul_one]⟩, fun p hp hlt => ?_, fun p hp hle => (h.hi p hp (by omega)).keep hz.mv (.inr hle)⟩
  rcases Nat.lt_trichotomy p a with c | rfl | c
  · have := dvd_lt hp h.dv c
    exact (h.lo p hp c).keep hz.mv (.inl (by omega))
  · exact hz.seg.less (by omega)
  · have := dvd_lt h.dv hp c
    omega
theorem Half.last {m bs a : Nat} {ys zs : List (List Int)} (h : Half m bs a ys) (ha : a ≤ m) (hb : m < a + 2 * bs) (hz : Mrg leL a m ys zs) : AllB m (2 * bs) zs := fun p hp => by
  rcases Nat.lt_trichotomy p a with c | rfl | c
  · have := dvd_lt hp h.dv c
    exact (h.lo p hp c).keep hz.mv (.inl (by omega))
  · exact hz.seg.less (by omega)
  · have := dvd_lt h.dv hp c
    intro i j h1 h2 h3
    omega
theorem Mrg.same {m a : Nat} {ys : List (List Int)} (h : SegS leL ys a m) : Mrg leL a m ys ys := ⟨.refl _ _ _, h⟩
section
variable {fl fs : FuncId} {vl vs : List Value} {A : List (List Int) → HP} {m : Nat}
set_option maxRecDepth 10000 in
set_option maxHeartbeats 4000000 in
theorem stable_c (hS : Srt Try.prog fl vl fs vs A m) (xs : List (List Int)) (hx : xs.length = m) :
    Spec Try.prog 201 [vagg (dat fl vl fs vs), vint (m : Int)] [A xs] (fun r S' => ∃ ys, r = vtup [] ∧ S' = [A ys] ∧ Mrg leL 0 m xs ys) := by
  have hbig := hS.big
  refine Spec.of_run2 (n := 57) Try.func201 rfl Try.results201 Try.ntmps201 rfl ?_
  repeat' (first | (with_reducible refine RL.done ?_) | (with_reducible refine RL.wanted ?_ ?_; exact rfl) | ((with_reducible show RH _ _ _ ⟨some 2, .box _ _, _, _, _, _⟩ _ _ _ _); (refine RH.boxAgg rfl rfl ?_; rintro _ _ ⟨b2, rfl, rfl⟩)) | ((with_reducible show RH _ _ _ _ _ _ _ _); refine RH.val (hK := ?_)) | (with_reducible first | refine Run.seq ?_ | refine Run.region ?_ | refine Run.block ?_) | (with_reducible refine seqN (K := Run _ _ _ _) ?_))
  refine Run.loop (α := Nat × List (List Int)) (fun z => [(1, vint (m : Int)), (2, vptr b2 0), (4, vint 20), (5, vint (z.1 : Int)), (6, vint ((z.1 : Int) + 20))]) (fun z => [A z.2, hcells b2 (dat fl vl fs vs)]) (fun z => z.1 ≤ m ∧ Fst m 20 z.1 z.2 ∧ Mv 0 m xs z.2) (fun z => m - z.1) (0, xs) ⟨Nat.zero_le _, Fst.zero _ _ _, .refl _ _ _⟩ (Ent.of (by dsimp only; exact slA) chA) ?_
  rintro ⟨a, ys⟩ ⟨ha, hF, hm⟩
  (try dsimp only at ha hF hm ⊢)
  have hy : ys.length = m := hm.len.trans hx
  repeat' (first | (with_reducible refine RL.done ?_) | (with_reducible refine RL.wanted ?_ ?_; exact rfl) | ((with_reducible show RH _ _ _ ⟨_, .call ⟨.value (.func 212), _, _⟩, _, _, _, _⟩ _ _ _ _); refine RH.cW Try.call212 ?_; refine ⟨_, _, _, (by repeat (first | exact Pick.nil | (apply Pick.cons; (with_reducible repeat (first | exact Rem.head | apply Rem.tail))))), insertionSort_c hS ys hy _ _ (by omega) (by omega) (by omega), ?_⟩; rintro _ _ ⟨zs, rfl, rfl, hz⟩; refine RL.nm ?_) | ((with_reducible show RH _ _ _ _ _ _ _ _); refine RH.val (hK := ?_)) | (with_reducible first | refine Run.seq ?_ | refine Run.region ?_ | refine Run.block ?_ | refine Run.skip ?_ | refine Run.exit ?_) | (with_reducible show Run _ _ (.cond _ _ _) _ _ _; refine Run.condD rfl (fun h => ?_) (fun h => ?_)) | (with_reducible first | refine seqN (K := Run _ _ _ _) ?_ | refine seqE ?_ | refine blockN ?_ | refine blockE ?_))
  all_goals first
    | (with_reducible refine seqN ?_
       rw [Int.toNat_natCast, show ((a : Int) + 20).toNat = a + 20 by omega] at hz
       exact ⟨(a + 20, zs), ⟨by dsimp only; omega, hF.step hz, hm.trans (hz.mv.wide (by omega) (by omega))⟩, by dsimp only; omega, Ent.of (by dsimp only; exact slA) chA⟩)
    | skip
  rw [Int.toNat_natCast, Int.toNat_natCast] at hz
  have hB := hF.last ha (by omega) hz
  have hm1 : Mv 0 m xs zs := hm.trans (hz.mv.wide (by omega) (by omega))
  refine Run.loop (α := Nat × List (List Int)) (fun z => [(1, vint (m : Int)), (2, vptr b2 0), (4, vint (z.1 : Int))]) (fun z => [A z.2, hcells b2 (dat fl vl fs vs)]) (fun z => 1 ≤ z.1 ∧ AllB m z.1 z.2 ∧ Mv 0 m xs z.2) (fun z => m - z.1) (20, zs) ⟨by dsimp only; omega, hB, hm1⟩ (Ent.of (by dsimp only; exact slA) chA) ?_
  clear hB hm1 hz hF hm hy zs ys
  rintro ⟨bs, ys⟩ ⟨hbs, hB, hm⟩
  (try dsimp only at hbs hB hm ⊢)
  by_cases hlt : bs < m
  · repeat' (first | (with_reducible refine RL.done ?_) | (with_reducible refine RL.wanted ?_ ?_; exact rfl) | ((with_reducible show RH _ _ _ _ _ _ _ _); refine RH.val (hK := ?_)) | (with_reducible first | refine Run.seq ?_ | refine Run.region ?_ | refine Run.block ?_ | refine Run.skip ?_ | refine Run.exit ?_) | (with_reducible show Run _ _ (.cond _ _ _) _ _ _; refine Run.condD rfl (fun h => ?_) (fun h => ?_)) | (with_reducible first | refine seqN (K := Run _ _ _ _) ?_ | refine seqE ?_ | refine blockE ?_))
    all_goals first
      | (exfalso; omega)
      | skip
    refine Run.loop (α := Nat × List (List Int)) (fun z => [(1, vint (m : Int)), (2, vptr b2 0), (4, vint (bs : Int)), (5, vint (z.1 : Int)), (6, vint ((z.1 : Int) + 2 * (bs : Int)))]) (fun z => [A z.2, hcells b2 (dat fl vl fs vs)]) (fun z => z.1 ≤ m ∧ Half m bs z.1 z.2 ∧ Mv 0 m xs z.2) (fun z => m - z.1) (0, ys) ⟨Nat.zero_le _, Half.zero hB, hm⟩ (Ent.of (by dsimp only; exact slA) chA) ?_
    clear hB hm ys
    rintro ⟨a, ys⟩ ⟨hle, hH, hm⟩
    (try dsimp only at hle hH hm ⊢)
    have hy : ys.length = m := hm.len.trans hx
    have e1 : ((a : Int) + (bs : Int)).toNat = a + bs := by omega
    have e2 : ((a : Int) + 2 * (bs : Int)).toNat = a + 2 * bs := by omega
    by_cases c1 : a + 2 * bs ≤ m
    · have hX : SegS leL ys ((a : Int)).toNat ((a : Int) + (bs : Int)).toNat := by rw [e1, Int.toNat_natCast]; exact hH.one.less (by omega)
      have hY : SegS leL ys ((a : Int) + (bs : Int)).toNat ((a : Int) + 2 * (bs : Int)).toNat := by rw [e1, e2]; exact hH.two.less (by omega)
      repeat' (first | (with_reducible refine RL.done ?_) | (with_reducible refine RL.wanted ?_ ?_; exact rfl) | ((with_reducible show RH _ _ _ ⟨_, .call ⟨.value (.func 213), _, _⟩, _, _, _, _⟩ _ _ _ _); refine RH.cW Try.call213 ?_; refine ⟨_, _, _, (by repeat (first | exact Pick.nil | (apply Pick.cons; (with_reducible repeat (first | exact Rem.head | apply Rem.tail))))), symMerge_c hS (m + 1) ys hy _ _ _ (by omega) (by omega) (by omega) (by omega) (by omega) hX hY, ?_⟩; rintro _ _ ⟨zs, rfl, rfl, hz⟩; refine RL.nm ?_) | ((with_reducible show RH _ _ _ _ _ _ _ _); refine RH.val (hK := ?_)) | (with_reducible first | refine Run.seq ?_ | refine Run.region ?_ | refine Run.block ?_ | refine Run.skip ?_ | refine Run.exit ?_) | (with_reducible show Run _ _ (.cond _ _ _) _ _ _; refine Run.condD rfl (fun h => ?_) (fun h => ?_)) | (with_reducible first | refine seqN (K := Run _ _ _ _) ?_ | refine seqE ?_ | refine blockN ?_ | refine blockE ?_))
      all_goals first
        | (exfalso; omega)
        | (with_reducible refine seqN ?_
           rw [Int.toNat_natCast, e2] at hz
           exact ⟨(a + 2 * bs, zs), ⟨by dsimp only; omega, hH.step hz, hm.trans (hz.mv.wide (by omega) (by omega))⟩, by dsimp only; omega, Ent.of (by dsimp only; exact slA) chA⟩)
    · by_cases c2 : a + bs < m
      · have hX : SegS leL ys ((a : Int)).toNat ((a : Int) + (bs : Int)).toNat := by rw [e1, Int.toNat_natCast]; exact hH.one.less (by omega)
        have hY : SegS leL ys ((a : Int) + (bs : Int)).toNat ((m : Int)).toNat := by rw [e1, Int.toNat_natCast]; exact hH.two.less (by omega)
        repeat' (first | (with_reducible refine RL.done ?_) | (with_reducible refine RL.wanted ?_ ?_; exact rfl) | ((with_reducible show RH _ _ _ ⟨_, .call ⟨.value (.func 213), _, _⟩, _, _, _, _⟩ _ _ _ _); refine RH.cW Try.call213 ?_; refine ⟨_, _, _, (by repeat (first | exact Pick.nil | (apply Pick.cons; (with_reducible repeat (first | exact Rem.head | apply Rem.tail))))), symMerge_c hS (m + 1) ys hy _ _ _ (by omega) (by omega) (by omega) (by omega) (by omega) hX hY, ?_⟩; rintro _ _ ⟨zs, rfl, rfl, hz⟩; refine RL.nm ?_) | ((with_reducible show RH _ _ _ _ _ _ _ _); refine RH.val (hK := ?_)) | (with_reducible first | refine Run.seq ?_ | refine Run.region ?_ | refine Run.block ?_ | refine Run.skip ?_ | refine Run.exit ?_) | (with_reducible show Run _ _ (.cond _ _ _) _ _ _; refine Run.condD rfl (fun h => ?_) (fun h => ?_)) | (with_reducible first | refine seqN (K := Run _ _ _ _) ?_ | refine seqE ?_ | refine blockN ?_ | refine blockE ?_))
        all_goals first
          | (exfalso; omega)
          | (with_reducible refine seqN ?_
             rw [Int.toNat_natCast, Int.toNat_natCast] at hz
             exact ⟨(2 * bs, zs), ⟨by dsimp only; omega, hH.last hle (by omega) hz, hm.trans (hz.mv.wide (by omega) (by omega))⟩, by dsimp only; omega, Ent.of (by dsimp only; exact slA) chA⟩)
      · repeat' (first | (with_reducible refine RL.done ?_) | (with_reducible refine RL.wanted ?_ ?_; exact rfl) | ((with_reducible show RH _ _ _ _ _ _ _ _); refine RH.val (hK := ?_)) | (with_reducible first | refine Run.seq ?_ | refine Run.region ?_ | refine Run.block ?_ | refine Run.skip ?_ | refine Run.exit ?_) | (with_reducible show Run _ _ (.cond _ _ _) _ _ _; refine Run.condD rfl (fun h => ?_) (fun h => ?_)) | (with_reducible first | refine seqN (K := Run _ _ _ _) ?_ | refine seqE ?_ | refine blockN ?_ | refine blockE ?_))
        all_goals first
          | (exfalso; omega)
          | (with_reducible refine seqN ?_
             exact ⟨(2 * bs, ys), ⟨by dsimp only; omega, hH.last hle (by omega) (Mrg.same (hH.one.less (by omega))), hm⟩, by dsimp only; omega, Ent.of (by dsimp only; exact slA) chA⟩)
  · repeat' (first | (with_reducible refine RL.done ?_) | (with_reducible refine RL.wanted ?_ ?_; exact rfl) | ((with_reducible show RH _ _ _ _ _ _ _ _); refine RH.val (hK := ?_)) | (with_reducible first | refine Run.seq ?_ | refine Run.region ?_ | refine Run.block ?_ | refine Run.skip ?_ | refine Run.exit ?_) | (with_reducible show Run _ _ (.cond _ _ _) _ _ _; refine Run.condD rfl (fun h => ?_) (fun h => ?_)) | (with_reducible first | refine seqN (K := Run _ _ _ _) ?_ | refine seqE ?_ | refine blockE ?_))
    all_goals first
      | (exfalso; omega)
      | (refine ⟨eA, _, [A ys], resA, ?_, ?_⟩
         · exact SEnt.ch chA
         · exact ⟨ys, rfl, rfl, hm, (hB 0 ⟨0, rfl⟩).less (by omega)⟩)
end
end Go.Proofs.Ytiifdhdhjioefaa

/- What sort asks of reflectlite: ValueOf, Swapper, Len; sort.SliceStable of a list of frozen rows. Proved for this program; conditions: at most a million rows. -/
namespace Go.Proofs.Ytiifdhdhjioefaa
open Go Go.Proofs
set_option linter.unusedVariables false
section
variable {P : Program} {n : Nat} {φ : Slots} {S : List HP} {d : Option Tmp} {ty : TypeId} {ps : String} {af : Array Edge} {g : Option (Nat × Bool)}
theorem VOp.iface {t e k : Nat} [ht : IsSl P t e k] {x : Operand} {v : Value} (hx : opd φ x = some (vlit v)) : VOp P n φ S ⟨d, .makeInterface t x, ty, ps, af, g⟩ (vlit (.iface t v)) := by
  refine ⟨fun c a hf hs => ⟨.iface t v, fun w' hw' => ?_, rfl⟩⟩
  have h1 : a.eval x = v := hf.opd hx
  simp [execOp, h1, Instr.makeInterface, run_underlying ht.u]
instance {t : TypeId} : One (vlit (typeHandle P t)) := ⟨fun _ _ h => by cases h; rfl⟩
/-- that f is the model's entry e -/
abbrev ExtF (P : Program) (f : FuncId) (e : Array Value → Sem Value) : Prop := ∀ args w, (callFunc f args).run P w = ((e args).run P w).andThen fun v w' => .ok (.value v) w'
theorem EOp.valueOf {f t e : Nat} {i : TypeInfo} (he : ExtF P f (fun args => Extern.ReflectliteValue.unpack (args.getD 0 (.tuple #[])))) (hi : P.info? t = some i) (hd : i.desc = .slice e) {x : Operand} {s : Sv} {ts : Array TypeId}
    (hx : opd φ x = some (vlit (.iface t (vsv s)))) : EOp P n φ S ⟨d, .call ⟨.value (.func f), #[x], ts⟩, ty, ps, af, g⟩ (fun r S' => ∃ b, r = vagg [vlit (typeHandle P t), vptr b 0, vlit (.int .u64 151)] ∧ S' = hcells b [vlit (vsv s)] :: S) := by
  refine ⟨fun c a hf hs => ?_⟩
  have h1 : a.eval x = .iface t (vsv s) := hf.opd hx
  obtain ⟨hl, hs'⟩ := hs.new (k := 0) (o := .cells #[vsv s] t (0, 0)) (h := hcells c.w.heap.size [vlit (vsv s)]) (fun hl => ⟨rfl, ⟨_, _, newW_new, by simp⟩, cellsAt_row (vs := [vsv s]) newW_new (.cons rfl .nil)⟩)
  refine ⟨.agg #[typeHandle P t, .pointer (some ⟨c.w.heap.size, 0, none⟩), .int .u64 151], _, c.F, vagg [vlit (typeHandle P t), vptr c.w.heap.size 0, vlit (.int .u64 151)], _, ?_, hl, ⟨[typeHandle P t, .pointer (some ⟨c.w.heap.size, 0, none⟩), .int .u64 151], rfl, .cons rfl (.cons rfl (.cons rfl .nil))⟩, hs', _, rfl, rfl⟩
  have e1 : (execOp a.eval ⟨d, .call ⟨.value (.func f), #[x], ts⟩, ty, ps, af, g⟩).run P c.w = (callFunc f #[a.eval x]).run P c.w := by
    simp [execOp, resolve, Act.eval, Deferred.ofValue, invoke]
  rw [e1, he, h1]
  show Result.andThen ((Extern.ReflectliteValue.unpack (.iface t (.slice s.1 s.2.1 s.2.2))).run P c.w) _ = _
  rw [Lib.run_valueOf_slice t e i hi hd]
  rfl
theorem VOp.swapper {f t e : Nat} {i ie : TypeInfo} {ke k : Nat} (he : ExtF P f (Extern.ReflectliteSwapper.swapper "internal/reflectlite" (Extern.ReflectliteValue.valueError "Swapper"))) (hi : P.info? t = some i) (hd : i.desc = .slice e) (hie : P.info? e = some ie)
    (hke : ∀ w, (Extern.Rtype.kind e).run P w = .ok ke w) {x : Operand} {s : Sv} {ts : Array TypeId} (hf : P.funcs.findIdx? (·.name == "internal/reflectlite" ++ ".Swapper$" ++ toString (Lib.swapperK s.2.1 ie ke)) = some k)
    (hx : opd φ x = some (vlit (.iface t (vsv s)))) : VOp P n φ S ⟨d, .call ⟨.value (.func f), #[x], ts⟩, ty, ps, af, g⟩ (vlit (.func (.func k) #[] (if Lib.swapperK s.2.1 ie ke ≤ 2 then [] else [vsv s, typeHandle P e]).toArray)) := by
  refine ⟨fun c a hf' hs => ⟨_, fun w' hw' => ?_, rfl⟩⟩
  have h1 : a.eval x = .iface t (vsv s) := hf'.opd hx
  have e1 : (execOp a.eval ⟨d, .call ⟨.value (.func f), #[x], ts⟩, ty, ps, af, g⟩).run P w' = (callFunc f #[a.eval x]).run P w' := by
    simp [execOp, resolve, Act.eval, Deferred.ofValue, invoke]
  rw [e1, he, h1, Lib.run_swapper_slice t e i ie hi hd hie ke hke s.1 s.2.1 s.2.2 k hf w']
  show Result.ok _ _ = _
  split <;> rfl
theorem VOp.lenV {f t e : Nat} {i : TypeInfo} (he : ExtF P f (Extern.ReflectliteValue.method (Extern.ReflectliteValue.valueError "reflectlite.Value.Len" 0) Extern.ReflectliteValue.len)) (hi : P.info? t = some i) (hd : i.desc = .slice e) (hpk : P.packed t = false)
    {x : Operand} {s : Sv} {b : Nat} {ts : Array TypeId} (hx : opd φ x = some (vagg [vlit (typeHandle P t), vptr b 0, vlit (.int .u64 151)])) (hh : Has S (hcells b [vlit (vsv s)])) :
    VOp P n φ S ⟨d, .call ⟨.value (.func f), #[x], ts⟩, ty, ps, af, g⟩ (vint (s.2.1 : Int)) := by
  refine ⟨fun c a hf ⟨fs, hs⟩ => ⟨.int .i64 (s.2.1 : Int), fun w' hw' => ?_, rfl⟩⟩
  have h1 : a.eval x = .agg #[typeHandle P t, .pointer (some ⟨b, 0, none⟩), .int .u64 151] := by
    obtain ⟨vs, h2, h3⟩ := hf.opd hx
    cases h3 with
    | cons q1 h3 =>
      cases h3 with
      | cons q2 h3 =>
        cases h3 with
        | cons q3 h3 =>
          cases h3
          cases q1; cases q2; cases q3
          exact h2
  obtain ⟨fr, _, _, _, h3⟩ := hh.get hs.all
  obtain ⟨v, h4, h5⟩ := h3 0 _ rfl
  cases h5
  have h6 : w'.cell? ⟨b, 0, none⟩ = some (.slice s.1 s.2.1 s.2.2) := hw'.cell h4
  have e1 : (execOp a.eval ⟨d, .call ⟨.value (.func f), #[x], ts⟩, ty, ps, af, g⟩).run P w' = (callFunc f #[a.eval x]).run P w' := by
    simp [execOp, resolve, Act.eval, Deferred.ofValue, invoke]
  rw [e1, he, h1, Lib.run_valueLen_slice t e i hi hd hpk ⟨b, 0, none⟩ s.1 s.2.1 s.2.2 w' h6]
  rfl
end
theorem setCell_eq (P : Program) {w : World} {b i : Nat} {arr : Array Value} {tt : TypeId} {u : Value} (hb : w.heap[b]? = some (.cells arr tt (0, 0))) (hi : i < arr.size) (hu : u.oneCell' = true) :
    w.setCell ⟨b, i, none⟩ u = setW w b (arr.toList.set i u).toArray tt := by
  have hfit : i + [u].length ≤ arr.size := by simp; omega
  have hrun := run_put (P := P) (vs := [u]) hb hfit (by simpa using hu)
  have hfz : w.frozen? ⟨b, i, none⟩ = false := by simp [World.frozen?, hb]
  obtain ⟨v, hv⟩ : ∃ v, arr[i]? = some v := ⟨arr[i], Array.getElem?_eq_getElem hi⟩
  have hcell : w.cell? ⟨b, i, none⟩ = some v := by rw [cell_row hb]; exact hv
  have hrun2 : (storeCells ⟨b, i, none⟩ [u]).run P w = .ok () (w.setCell ⟨b, i, none⟩ u) := by
    simp [storeCells, run_store P _ _ u _ hu, Addr.add_zero', hcell, hfz]
  rw [hrun] at hrun2
  injection hrun2 with _ hw
  rw [← hw, List.set_eq_take_append_cons_drop, if_pos (by simpa using hi)]
  simp
theorem Rows.get {c : Ctx} {α : Type} {t : TR α} {xs : List α} {vss : List (List Value)} {fss : List (List Nat)} (h : Rows c t xs vss fss) : vss.length = xs.length ∧ fss.length = xs.length ∧ ∀ (k : Nat) (x : α) (vs : List Value) (f : List Nat), xs[k]? = some x → vss[k]? = some vs → fss[k]? = some f → t.p c x vs f := by
  induction h with
  | nil => exact ⟨rfl, rfl, fun k x vs f h => by simp at h⟩
  | @cons x vs f xs vss fss hp _ ih =>
    refine ⟨by simp [ih.1], by simp [ih.2.1], fun k x' vs' f' h1 h2 h3 => ?_⟩
    cases k with
    | zero => simp at h1 h2 h3; subst h1; subst h2; subst h3; exact hp
    | succ k => exact ih.2.2 k x' vs' f' (by simpa using h1) (by simpa using h2) (by simpa using h3)
theorem Rows.mk {c : Ctx} {α : Type} {t : TR α} : ∀ {xs : List α} {vss : List (List Value)} {fss : List (List Nat)}, vss.length = xs.length → fss.length = xs.length → (∀ (k : Nat) (x : α) (vs : List Value) (f : List Nat), xs[k]? = some x → vss[k]? = some vs → fss[k]? = some f → t.p c x vs f) → Rows c t xs vss fss
  | [], [], [], _, _, _ => .nil
  | x :: xs, vs :: vss, f :: fss, h1, h2, h => .cons (h 0 x vs f rfl rfl rfl) (Rows.mk (by simpa using h1) (by simpa using h2) fun k x vs f q1 q2 q3 => h (k + 1) x vs f (by simpa using q1) (by simpa using q2) (by simpa using q3))
  | [], _ :: _, _, h1, _, _ => by simp at h1
  | _ :: _, [], _, h1, _, _ => by simp at h1
  | [], [], _ :: _, _, h2, _ => by simp at h2
  | _ :: _, _ :: _, [], _, h2, _ => by simp at h2
theorem swap_get {α : Type} [Inhabited α] {xs : List α} {i j k : Nat} {x : α} (hi : i < xs.length) (hj : j < xs.length) (h : (swapL xs i j)[k]? = some x) : xs[if k = j then i else if k = i then j else k]? = some x := by
  rw [swapL, List.getElem?_set, List.getElem?_set] at h
  by_cases h1 : k = j
  · subst h1
    rw [if_pos rfl, if_pos (by simpa using hj)] at h
    rw [if_pos rfl, ← h, at_eq hi, List.getElem?_eq_getElem hi]
  · rw [if_neg h1]
    rw [if_neg (fun e => h1 e.symm)] at h
    by_cases h2 : k = i
    · subst h2
      rw [if_pos rfl] at h ⊢
      rw [if_pos hi] at h
      rw [← h, at_eq hj, List.getElem?_eq_getElem hj]
    · rw [if_neg h2]
      rw [if_neg (fun e => h2 e.symm)] at h
      exact h
theorem flat_one {α : Type} {zss : List (List α)} {k : Nat} {y : List α} {u : α} (h : ∀ y ∈ zss, y.length = 1) (hk : zss[k]? = some y) (hy : y = [u]) : zss.flatten[k]? = some u := by
  subst hy
  induction zss generalizing k with
  | nil => simp at hk
  | cons z zss ih =>
    obtain ⟨w, rfl⟩ := List.length_eq_one_iff.1 (h z (by simp))
    cases k with
    | zero => simp at hk; subst hk; rfl
    | succ k =>
      have := ih (k := k) (fun y hy => h y (by simp [hy])) (by simpa using hk)
      simpa using this
/-- the swapper's closure exchanges two rows of an owned list -/
theorem swp_rows {P : Program} {f e : Nat} {ie : TypeInfo} {gg : Bool} (he : ExtF P f (Extern.ReflectliteSwapper.swap gg)) (hie : P.info? e = some ie) (hs1 : ie.size = 1) (hagg : ∀ w, (isAgg e).run P w = .ok false w) (t : TR (List Int)) (hk : t.k = 1) (s : Sv) (G : HP) (m : Nat) :
    Swp P f [vsv s, typeHandle P e] (fun xs => hstar (hsl t (vsv s) xs) G) m := by
  refine ⟨fun xs i j c S hl hi hj hij hs => ?_⟩
  obtain ⟨fs, hs0⟩ := hs
  obtain ⟨fs1, hsf⟩ := SEnt.unstar c fs hs0
  obtain ⟨f1, f0, f2, rfl, hA, hp, hB⟩ := SHf.middle (A := []) hsf
  cases hA
  rcases hp with ⟨rfl, _, _⟩ | ⟨b, cap, arr, tt, vss, fss, e1, hb, hsz, hcap, hr, htk, rfl⟩
  · simp at hl; omega
  · obtain ⟨hv1, hv2, hv3⟩ := hr.get
    rw [hk, Nat.mul_one] at hsz htk
    -- every element is one cell
    have hcells : ∀ k (hk' : k < xs.length), ∃ u, vss[k]? = some [u] ∧ arr[k]? = some u ∧ u.oneCell' = true := fun k hk' => by
      obtain ⟨v1, vs, v2, g1, g, g2, q1, q2, q3, q4, q5, _⟩ := hr.at k _ (List.getElem?_eq_getElem hk')
      have q6 := t.len q5
      rw [hk] at q6 q4
      obtain ⟨u, rfl⟩ := List.length_eq_one_iff.1 q6
      refine ⟨u, by rw [q1, ← q3, List.getElem?_append_right (Nat.le_refl _), Nat.sub_self]; rfl, ?_, t.one q5 u (by simp)⟩
      have : (arr.toList.take xs.length)[k]? = some u := by
        rw [htk, q1, List.flatten_append, List.getElem?_append_right (by omega), q4, List.flatten_cons, Nat.mul_one, Nat.sub_self]; rfl
      rw [List.getElem?_take, if_pos hk'] at this
      simpa using this
    obtain ⟨u, hu1, hu2, hu3⟩ := hcells i (by omega)
    obtain ⟨u2, hw1, hw2, hw3⟩ := hcells j (by omega)
    have hsz2 : xs.length ≤ arr.size := by omega
    have e2 := setCell_eq P (i := i) (u := u2) hb (by omega) hw3
    have hlt : b < c.w.heap.size := (Array.getElem?_eq_some_iff.1 hb).1
    have hb2 : (setW c.w b (arr.toList.set i u2).toArray tt).heap[b]? = some (.cells (arr.toList.set i u2).toArray tt (0, 0)) := setW_at hlt
    have e3 := setCell_eq P (i := j) (u := u) hb2 (by simp; omega) hu3
    generalize hW : setW (setW c.w b (arr.toList.set i u2).toArray tt) b ((arr.toList.set i u2).toArray.toList.set j u).toArray tt = W at e3
    have hWo : ∀ k, k ≠ b → W.heap[k]? = c.w.heap[k]? := fun k hk => by rw [← hW, setW_other hk, setW_other hk]
    have hWs : W.heap.size = c.w.heap.size := by rw [← hW, setW_size, setW_size]
    have hWb : W.heap[b]? = some (.cells ((arr.toList.set i u2).set j u).toArray tt (0, 0)) := by rw [← hW]; exact setW_at (by rw [setW_size]; exact hlt)
    have hbo := hsf.own b (by simp)
    have hle : c.le ⟨c.F, c.U, W⟩ := ⟨fun _ h => h, rfl, fun k hk' => hWo k (fun e => hk'.elim (fun h => hbo.1 (e ▸ h)) (fun h => hbo.2.1 (e ▸ h))), by rw [hWs]; exact Nat.le_refl _, by rw [← hW]; rfl, by rw [← hW]; rfl, by rw [← hW]; rfl⟩
    have hnd : (b :: fss.flatten).Nodup := by
      have := hsf.nodup
      simp only [List.nil_append, List.flatten_cons, List.nodup_append] at this
      exact this.1
    have hperm : (b :: fss.flatten).Perm (b :: (swapL fss i j).flatten) := .cons b (swapL_perm (by omega) (by omega)).flatten
    have hs' := hsf.replace (h' := hsl t (vsv s) (swapL xs i j)) (f' := b :: (swapL fss i j).flatten) hle .nil hB (fun _ => .rfl) (fun k _ hk' => hWo k (fun e => by subst e; simp at hk')) (by
        intro k hk'
        have hk2 := hperm.mem_iff.2 hk'
        refine ⟨.inl hk2, ?_⟩
        have := (hsf.own k (by simp only [List.nil_append, List.flatten_cons, List.mem_append]; exact .inl hk2)).2.2
        rw [hWs]; exact this) (hperm.nodup_iff.1 hnd) (by
      refine .inr ⟨b, cap, _, tt, swapL vss i j, swapL fss i j, by rw [e1, swapL_length], hWb, by simp [hk, hsz], by rw [swapL_length]; exact hcap, ?_, ?_, rfl⟩
      · refine Rows.mk (by rw [swapL_length, swapL_length, hv1]) (by rw [swapL_length, swapL_length, hv2]) fun k x vs f q1 q2 q3 => ?_
        have r1 := swap_get (by omega) (by omega) q1
        have r2 := swap_get (by omega) (by omega) q2
        have r3 := swap_get (by omega) (by omega) q3
        refine t.mono hle.v (fun y hy => hWo y (fun e => ?_)) (hv3 _ x vs f r1 r2 r3)
        subst e
        exact (List.nodup_cons.1 hnd).1 (List.mem_flatten.2 ⟨f, List.mem_of_getElem? r3, hy⟩)
      · rw [hk, Nat.mul_one, swapL_length]
        apply List.ext_getElem?
        intro k
        by_cases hkn : k < xs.length
        · have hlk : k < (swapL vss i j).length := by rw [swapL_length, hv1]; exact hkn
          have r2 := swap_get (by omega) (by omega) (List.getElem?_eq_getElem hlk)
          obtain ⟨w, p1, p2, p3⟩ := hcells (if k = j then i else if k = i then j else k) (by split; omega; split <;> omega)
          rw [p1] at r2
          injection r2 with r2
          have hsg : ∀ y ∈ swapL vss i j, y.length = 1 := fun y hy => by
            obtain ⟨v1, vs, v2, g1, g, g2, q1, q2, q3, q4, q5, _⟩ := hr.at 0 _ (List.getElem?_eq_getElem (by omega))
            have hy' := (swapL_perm (xs := vss) (i := i) (j := j) (by omega) (by omega)).mem_iff.2 hy
            obtain ⟨k2, hk2⟩ := List.mem_iff_getElem?.1 hy'
            obtain ⟨w2, p4, _, _⟩ := hcells k2 (by have := (List.getElem?_eq_some_iff.1 hk2).1; omega)
            rw [p4] at hk2; injection hk2 with hk2
            rw [← hk2]; rfl
          rw [flat_one hsg (List.getElem?_eq_getElem hlk) r2.symm, List.getElem?_take, if_pos hkn, ← p2]
          simp only [List.getElem?_set]
          by_cases c1 : k = j
          · subst c1
            rw [if_pos rfl, if_pos rfl, if_pos (by simp; omega)]; exact hu2.symm
          · rw [if_neg (fun e => c1 e.symm), if_neg c1]
            by_cases c2 : k = i
            · subst c2
              rw [if_pos rfl, if_pos rfl, if_pos (by simp; omega)]; exact hw2.symm
            · rw [if_neg (fun e => c2 e.symm), if_neg c2]; simp
        · rw [List.getElem?_eq_none (by simp; omega), List.getElem?_eq_none]
          have hf1 : (swapL vss i j).flatten.length = vss.flatten.length := ((swapL_perm (xs := vss) (i := i) (j := j) (by omega) (by omega)).flatten.length_eq).symm
          rw [hf1, ← htk]; simp; omega)
    obtain ⟨fs4, hsE⟩ := SEnt.star _ _ hs'
    refine ⟨.tuple #[], W, c.F, ?_, hle, ⟨fs4, hsE⟩⟩
    rw [he]
    show Result.andThen ((Extern.ReflectliteSwapper.swap gg #[.int .i64 (i : Int), .int .i64 (j : Int), vsv s, typeHandle P e]).run P c.w) _ = _
    have hz : ∀ k, c.w.frozen? ⟨b, k, none⟩ = false := fun k => by simp [World.frozen?, hb]
    have := Lib.run_swap_one (P := P) gg e ie hie hs1 hagg b 0 xs.length cap i j (by omega) (by omega) u u2 hu3 hw3 c.w (by rw [Nat.zero_add, cell_row hb]; exact hu2) (by rw [Nat.zero_add, cell_row hb]; exact hw2) (hz _) (hz _)
    rw [e1, this, Nat.zero_add, Nat.zero_add, e2, e3]
    rfl
theorem extV : ExtF Try.prog 199 (fun args => Extern.ReflectliteValue.unpack (args.getD 0 (.tuple #[]))) :=
  run_callFunc_extern Try.func199 (by kernel_rfl) (by kernel_rfl) (by kernel_rfl) (by kernel_rfl)
theorem extS : ExtF Try.prog 200 (Extern.ReflectliteSwapper.swapper "internal/reflectlite" (Extern.ReflectliteValue.valueError "Swapper")) :=
  run_callFunc_extern Try.func200 (by kernel_rfl) (by kernel_rfl) (by kernel_rfl) (by kernel_rfl)
theorem extL : ExtF Try.prog 202 (Extern.ReflectliteValue.method (Extern.ReflectliteValue.valueError "reflectlite.Value.Len" 0) Extern.ReflectliteValue.len) :=
  run_callFunc_extern Try.func202 (by kernel_rfl) (by kernel_rfl) (by kernel_rfl) (by kernel_rfl)
theorem ext9 : ExtF Try.prog 211 (Extern.ReflectliteSwapper.swap false) :=
  run_callFunc_extern Try.func211 (by kernel_rfl) (by kernel_rfl) (by kernel_rfl) (by kernel_rfl)
theorem infoSS : Try.prog.info? 24 = some Try.t24 := by kernel_rfl
theorem infoS : Try.prog.info? 35 = some Try.t35 := by kernel_rfl
theorem packSS : Try.prog.packed 24 = false := by kernel_rfl
/-- which of the swapper's functions -/
def swpF (n : Nat) : FuncId := if n = 0 then 203 else if n = 1 then 204 else 211
noncomputable def swpV (s : Sv) : List Value := if s.2.1 = 0 then [] else if s.2.1 = 1 then [] else [vsv s, typeHandle Try.prog 35]
theorem swpK (n : Nat) : Lib.swapperK n Try.t35 23 = if n = 0 then 1 else if n = 1 then 2 else 9 := by
  match n with
  | 0 => rfl
  | 1 => rfl
  | n + 2 =>
    rw [if_neg (by omega), if_neg (by omega)]
    have h0 : (n + 2 == 0) = false := by simp
    have h1 : (n + 2 == 1) = false := by simp
    unfold Lib.swapperK
    rw [h0, h1]
    decide
theorem swpIdx (n : Nat) : Try.prog.funcs.findIdx? (·.name == "internal/reflectlite" ++ ".Swapper$" ++ toString (Lib.swapperK n Try.t35 23)) = some (swpF n) := by
  rw [swpK, swpF]
  split
  · kernel_rfl
  · split
    · kernel_rfl
    · kernel_rfl
theorem swpVal (s : Sv) : (if Lib.swapperK s.2.1 Try.t35 23 ≤ 2 then [] else [vsv s, typeHandle Try.prog 35]) = swpV s := by
  rw [swpK, swpV]
  split
  · rfl
  · split <;> rfl
theorem swpS (s : Sv) (G : HP) : Swp Try.prog (swpF s.2.1) (swpV s) (fun xs => hstar (hsl (tS tInt) (vsv s) xs) G) s.2.1 := by
  by_cases h0 : s.2.1 = 0
  · exact ⟨fun xs i j c S hl hi hj hij hs => by omega⟩
  · by_cases h1 : s.2.1 = 1
    · exact ⟨fun xs i j c S hl hi hj hij hs => by omega⟩
    · rw [swpF, swpV, if_neg h0, if_neg h0, if_neg h1, if_neg h1]
      exact swp_rows ext9 infoS rfl Try.isAgg35 (tS tInt) rfl s G _
end Go.Proofs.Ytiifdhdhjioefaa

/- sort.SliceStable of a list of frozen rows; impl.sortRows by compareLists. Proved for this program; conditions: at most a million rows, lengths below 2^62. -/
namespace Go.Proofs.Ytiifdhdhjioefaa
open Go Go.Proofs
set_option linter.unusedVariables false
def Few (xs : List (List Int)) : Prop := ∀ t ∈ xs, t.length ≤ 4611686018427387904
/-- the list that is sorted, with what its order function holds -/
abbrev srtA (s : Sv) (G : HP) : List (List Int) → HP := fun xs => hstar (hsl (tS tInt) (vsv s) xs) (hand (Few xs) G)
theorem Run.lenH {P : Program} {n : Nat} {x : Code} {Q : Post} {φ : Slots} {α : Type} {t : TR α} {s : Sv} {xs : List α} {S : List HP} (hh : Has S (hsl t (vsv s) xs)) (hr : s.2.1 = xs.length → Run P n x Q φ S) : Run P n x Q φ S :=
  ⟨fun c a hf ⟨fs, hs⟩ => by
    obtain ⟨f, _, hp⟩ := hh.get hs.all
    obtain ⟨ao, cap, e⟩ := ownS.shape hp
    injection e with _ e2 _
    exact (hr e2).run c a hf ⟨fs, hs⟩⟩
theorem swpFew (s : Sv) (G : HP) : Swp Try.prog (swpF s.2.1) (swpV s) (srtA s G) s.2.1 := by
  refine ⟨fun xs i j c S hl hi hj hij hs => ?_⟩
  obtain ⟨fs, hs0⟩ := hs
  obtain ⟨f, gs, rfl, f1, f2, rfl, h1, hp, h2⟩ := hs0.head
  have hs1 : SH c (hstar (hsl (tS tInt) (vsv s) xs) G :: S) := ⟨_, hs0.turn ⟨f1, f2, rfl, h1, h2⟩⟩
  obtain ⟨v, w', F', e1, e2, ⟨fs3, hs3⟩⟩ := (swpS s G).run xs i j c S hl hi hj hij hs1
  obtain ⟨f3, gs3, rfl, f4, f5, rfl, h3, h4⟩ := hs3.head
  refine ⟨v, w', F', e1, e2, ⟨_, hs3.turn ⟨f4, f5, rfl, h3, ?_, h4⟩⟩⟩
  intro t ht
  exact hp t ((swapL_perm (by omega) (by omega)).mem_iff.2 ht)
set_option maxRecDepth 10000 in
set_option maxHeartbeats 2000000 in
theorem SliceStable_c {fl : FuncId} {vl : List Value} (s : Sv) (G : HP) (hL : Lss Try.prog fl vl (srtA s G) s.2.1) (hb : s.2.1 ≤ 1000000) (xs : List (List Int)) (hx : xs.length = s.2.1) :
    Spec Try.prog 195 [vlit (.iface 24 (vsv s)), vlit (.func (.func fl) #[] vl.toArray)] [srtA s G xs] (fun r S' => ∃ ys, r = vtup [] ∧ S' = [srtA s G ys] ∧ Mrg leL 0 s.2.1 xs ys) := by
  have hS : Srt Try.prog fl vl (swpF s.2.1) (swpV s) (srtA s G) s.2.1 := ⟨hL, swpFew s G, hb⟩
  refine Spec.of_run2 (n := 16) Try.func195 rfl Try.results195 Try.ntmps195 rfl ?_
  repeat' (first | (with_reducible refine RL.done ?_) | (with_reducible refine RL.wanted ?_ ?_; exact rfl) | ((with_reducible show RH _ _ _ ⟨some 4, .alloc _, _, _, _, _⟩ _ _ _ _); refine RH.alloc rfl ?_; rintro _ _ ⟨b4, rfl, rfl⟩) | ((with_reducible show RH _ _ _ ⟨_, .call ⟨.value (.func 199), _, _⟩, _, _, _, _⟩ _ _ _ _); refine RH.eff rfl rfl (EOp.valueOf extV infoSS rfl rfl) ?_; rintro _ _ ⟨bv, rfl, rfl⟩) | ((with_reducible show RH _ _ _ ⟨_, .call ⟨.value (.func 200), _, _⟩, _, _, _, _⟩ _ _ _ _); refine RH.value rfl rfl (VOp.swapper extS infoSS rfl infoS (fun w => Lib.rl_kind _ _ _ infoS rfl w) (swpIdx _) rfl) ?_; rw [swpVal]) | ((with_reducible show RH _ _ _ ⟨_, .call ⟨.value (.func 202), _, _⟩, _, _, _, _⟩ _ _ _ _); refine RH.value rfl rfl (VOp.lenV extL infoSS rfl packSS rfl (by with_reducible repeat (first | exact Has.head | apply Has.tail))) ?_) | ((with_reducible show RH _ _ _ ⟨_, .call ⟨.value (.func 201), _, _⟩, _, _, _, _⟩ _ _ _ _); refine RH.cW Try.call201 ?_; refine ⟨_, _, _, (by repeat (first | exact Pick.nil | (apply Pick.cons; (with_reducible repeat (first | exact Rem.head | apply Rem.tail))))), stable_c hS xs hx, ?_⟩; rintro _ _ ⟨ys, rfl, rfl, hm⟩; refine RL.nm ?_) | ((with_reducible show RH _ _ _ _ _ _ _ _); first | refine RH.val (hK := ?_) | refine RH.upd (hK := ?_)) | (with_reducible first | refine Run.seq ?_ | refine Run.region ?_) | (with_reducible refine seqN (K := Run _ _ _ _) ?_))
  refine ⟨eA, _, [srtA s G ys], resA, ?_, ?_⟩
  · exact SEnt.ch chA
  · exact ⟨ys, rfl, rfl, hm⟩
set_option maxRecDepth 10000 in
set_option maxHeartbeats 2000000 in
theorem sortLess_f (xs : List (List Int)) (hr : Few xs) (i j : Int) (hi0 : 0 ≤ i) (hi : i.toNat < xs.length) (hj0 : 0 ≤ j) (hj : j.toNat < xs.length) :
    Spec Try.prog 196 [vint i, vint j, vfp [vlit (.func (.func 134) #[] #[])], vfp [vsl 1 (fun t : List Int => [vsl 1 (fun x : Int => [vint x]) t]) xs]] [] (fun r S' => r = vbool (ltL (at' xs i.toNat) (at' xs j.toNat)) ∧ S' = []) := by
  rw [ltL_eq, at_eq hi, at_eq hj]
  refine Spec.of_run2 (n := 18) Try.func196 rfl Try.results196 Try.ntmps196 rfl ?_
  repeat' (first | (with_reducible refine RL.done ?_) | (with_reducible refine RL.wanted ?_ ?_; exact rfl) | ((with_reducible show Run _ _ (.region 1 _ true) _ _ _); refine Run.regionD (fun i => i == 9) rfl ?_; change RD _ _ _ _ _ _ 12 (dm 12 0) _ _) | ((with_reducible show RD _ _ 1 _ _ _ _ _ _ _); first | ((with_reducible show RD _ _ _ _ _ _ _ (dm 12 0) _ _); refine RD.tk 0 (dm 12 3584) (dm 12 1) (hK := ?_)) | ((with_reducible show RD _ _ _ _ _ _ _ (dm 12 1) _ _); refine RD.tk 1 (dm 12 3608) (dm 12 3) (hK := ?_)) | ((with_reducible show RD _ _ _ _ _ _ _ (dm 12 3) _ _); refine RD.tk 2 (dm 12 3608) (dm 12 7) (hK := ?_)) | ((with_reducible show RD _ _ _ _ _ _ _ (dm 12 7) _ _); refine RD.tk 3 (dm 12 3600) (dm 12 15) (hK := ?_)) | ((with_reducible show RD _ _ _ _ _ _ _ (dm 12 15) _ _); refine RD.tk 4 (dm 12 3584) (dm 12 31) (hK := ?_)) | ((with_reducible show RD _ _ _ _ _ _ _ (dm 12 31) _ _); refine RD.tk 5 (dm 12 3968) (dm 12 63) (hK := ?_)) | ((with_reducible show RD _ _ _ _ _ _ _ (dm 12 63) _ _); refine RD.tk 6 (dm 12 3968) (dm 12 127) (hK := ?_)) | ((with_reducible show RD _ _ _ _ _ _ _ (dm 12 127) _ _); refine RD.tk 7 (dm 12 3840) (dm 12 255) (hK := ?_)) | ((with_reducible show RD _ _ _ _ _ _ _ (dm 12 255) _ _); refine RD.tk 8 (dm 12 3584) (dm 12 511) (hK := ?_)) | ((with_reducible show RD _ _ _ _ _ _ _ (dm 12 511) _ _); refine RD.a1 9 ?_) | ((with_reducible show RD _ _ _ _ _ _ _ (dm 12 1023) _ _); refine RD.tk 10 (dm 12 2048) (dm 12 2047) (hK := ?_)) | ((with_reducible show RD _ _ _ _ _ _ _ (dm 12 2047) _ _); refine RD.tk 11 (dm 12 0) (dm 12 4095) (hK := ?_)) | ((with_reducible show RD _ _ _ _ _ _ 0 _ _ _); refine RD.done (by kernel_rfl) ?_)) | ((with_reducible show RO _ _ 1 _ _ _ _ _ _ _ _); ((with_reducible show RO _ _ _ _ _ _ _ (dm 12 511) 9 _ _); (refine RO.h (dm 12 1023) ?_; show RH _ _ _ ⟨_, _, _, _, _, _⟩ _ _ _ _))) | ((with_reducible show RH _ _ _ ⟨_, .call ⟨.value (.tmp _), _, _⟩, _, _, _, _⟩ _ _ _ _); refine RH.cC Try.call134 ?_; refine ⟨_, _, _, (by repeat (first | exact Pick.nil | (apply Pick.cons; (with_reducible repeat (first | exact Rem.head | apply Rem.tail))))), compareLists_c _ _ (hr _ (List.getElem_mem _)) (hr _ (List.getElem_mem _)), ?_⟩; rintro _ _ ⟨rfl, rfl⟩; refine RL.nm ?_) | ((with_reducible show RH _ _ _ _ _ _ _ _); refine RH.val (hK := ?_)) | (with_reducible first | refine Run.seq ?_ | refine Run.region ?_ | refine Run.ret ?_) | (with_reducible refine seqN (K := Run _ _ _ _) ?_))
  all_goals
    refine ⟨eA, _, [], resA, .ch .nil, ?_⟩
    exact ⟨rfl, rfl⟩
theorem sortLess_c (s : Sv) (xs : List (List Int)) (hr : Few xs) (b2 b3 : Nat) (i j : Int) (hi0 : 0 ≤ i) (hi : i.toNat < xs.length) (hj0 : 0 ≤ j) (hj : j.toNat < xs.length) :
    Spec Try.prog 196 [vint i, vint j, vptr b3 0, vptr b2 0] [hcells b3 [vlit (.func (.func 134) #[] #[])], hcells b2 [vlit (vsv s)], hsl (tS tInt) (vsv s) xs]
      (fun r S' => r = vbool (ltL (at' xs i.toNat) (at' xs j.toNat)) ∧ S' = [hcells b3 [vlit (.func (.func 134) #[] #[])], hcells b2 [vlit (vsv s)], hsl (tS tInt) (vsv s) xs]) := by
  refine (Spec.lend (B := [hcells b3 [vlit (.func (.func 134) #[] #[])], hcells b2 [vlit (vsv s)], hsl (tS tInt) (vsv s) xs]) (S := []) (sortLess_f xs hr i j hi0 hi hj0 hj) ?_ ?_).mono ?_
  · intro c vs fs ha hB hF
    cases ha with
    | cons p1 ha =>
      cases ha with
      | cons p2 ha =>
        cases ha with
        | cons p3 ha =>
          cases ha with
          | cons p4 ha =>
            cases ha
            cases hB with
            | cons h1 hB =>
              cases hB with
              | cons h2 hB =>
                cases hB with
                | cons h3 hB =>
                  cases hB
                  obtain ⟨rfl, _, h4⟩ := h1
                  obtain ⟨rfl, _, h5⟩ := h2
                  refine .cons p1 (.cons p2 (.cons ⟨b3, 0, p3, hF b3 (by simp), h4⟩ (.cons ⟨b2, 0, p4, hF b2 (by simp), fun k q hq => ?_⟩ .nil)))
                  match k, hq with
                  | 0, hq =>
                    cases hq
                    obtain ⟨v, h6, h7⟩ := h5 0 _ rfl
                    cases h7
                    exact ⟨_, h6, ownS.frz (t := tS tInt) h3 (fun b hb => hF b (by simp [hb]))⟩
  · rintro r H ⟨rfl, rfl⟩
    exact ⟨inferInstance, inferInstance⟩
  · rintro r S' ⟨H, ⟨rfl, rfl⟩, rfl⟩
    exact ⟨rfl, rfl⟩
abbrev srtG (b2 b3 : Nat) (s : Sv) : HP := hstar (hcells b3 [vlit (.func (.func 134) #[] #[])]) (hcells b2 [vlit (vsv s)])
theorem sortLss (s : Sv) (b2 b3 : Nat) : Lss Try.prog 196 [.pointer (some ⟨b3, 0, none⟩), .pointer (some ⟨b2, 0, none⟩)] (srtA s (srtG b2 b3 s)) s.2.1 := by
  refine ⟨Try.call196, fun xs i j hl hi0 hi hj0 hj => ?_⟩
  refine Spec.pre SEnt.unstar (Spec.pre (SEnt.pick (.cons (.tail .head) (.cons .head .nil))) (Spec.hand fun hp => Spec.pre SEnt.unstar ?_))
  refine (sortLess_c s xs hp b2 b3 i j hi0 (by omega) hj0 (by omega)).post ?_
  rintro r _ ⟨rfl, rfl⟩
  exact SImp.of (SEnt.star.trans ((SEnt.hand hp).trans ((SEnt.pick (.cons (.tail .head) (.cons .head .nil))).trans SEnt.star))) ⟨rfl, rfl⟩
theorem sortCall_c (s : Sv) (b2 b3 : Nat) (hb : s.2.1 ≤ 1000000) (xs : List (List Int)) (hx : s.2.1 = xs.length) (hp : Few xs) :
    Spec Try.prog 195 [vlit (.iface 24 (vsv s)), vlit (.func (.func 196) #[] #[.pointer (some ⟨b3, 0, none⟩), .pointer (some ⟨b2, 0, none⟩)])] [hcells b3 [vlit (.func (.func 134) #[] #[])], hcells b2 [vlit (vsv s)], hsl (tS tInt) (vsv s) xs] (fun r S' => ∃ ys, r = vtup [] ∧ S' = [srtA s (srtG b2 b3 s) ys] ∧ Mrg leL 0 s.2.1 xs ys) :=
  Spec.pre (SEnt.star.trans ((SEnt.hand hp).trans ((SEnt.pick (.cons (.tail .head) (.cons .head .nil))).trans SEnt.star))) (SliceStable_c s (srtG b2 b3 s) (sortLss s b2 b3) hb xs hx.symm)
set_option maxRecDepth 10000 in
set_option maxHeartbeats 2000000 in
theorem sortRows_c (s : Sv) (xs : List (List Int)) (hr : Few xs) (hb : xs.length ≤ 1000000) :
    Spec Try.prog 178 [vlit (vsv s), vlit (.func (.func 134) #[] #[])] [hsl (tS tInt) (vsv s) xs] (fun r S' => ∃ ys, r = vtup [] ∧ S' = [hsl (tS tInt) (vsv s) ys] ∧ Mrg leL 0 xs.length xs ys) := by
  refine Spec.of_run2 (n := 8) Try.func178 rfl Try.results178 Try.ntmps178 rfl ?_
  refine Run.lenH .head ?_
  intro hlen
  repeat' (first | (with_reducible refine RL.done ?_) | (with_reducible refine RL.wanted ?_ ?_; exact rfl) | ((with_reducible show RH _ _ _ ⟨some 2, .box _ _, _, _, _, _⟩ _ _ _ _); (refine RH.boxOne rfl rfl ?_; rintro _ _ ⟨b2, rfl, rfl⟩)) | ((with_reducible show RH _ _ _ ⟨some 3, .box _ _, _, _, _, _⟩ _ _ _ _); (refine RH.boxOne rfl rfl ?_; rintro _ _ ⟨b3, rfl, rfl⟩)) | ((with_reducible show RH _ _ _ ⟨_, .makeInterface _ _, _, _, _, _⟩ _ _ _ _); refine RH.value rfl rfl (VOp.iface rfl) ?_) | ((with_reducible show RH _ _ _ ⟨_, .call ⟨.value (.func 195), _, _⟩, _, _, _, _⟩ _ _ _ _); refine RH.cW Try.call195 ?_; refine ⟨_, _, _, (by repeat (first | exact Pick.nil | (apply Pick.cons; (with_reducible repeat (first | exact Rem.head | apply Rem.tail))))), sortCall_c s b2 b3 (by omega) xs hlen hr, ?_⟩; rintro _ _ ⟨ys, rfl, rfl, hm⟩; refine RL.nm ?_) | ((with_reducible show RH _ _ _ _ _ _ _ _); refine RH.val (hK := ?_)) | (with_reducible first | refine Run.seq ?_ | refine Run.region ?_) | (with_reducible refine seqN (K := Run _ _ _ _) ?_))
  refine ⟨eA, _, [hsl (tS tInt) (vsv s) ys], resA, ?_, ?_⟩
  · exact (SEnt.pick (.cons .head .nil)).trans (SEnt.unstar.trans (SEnt.ch chA))
  · rw [hlen] at hm
    exact ⟨ys, rfl, rfl, hm⟩
end Go.Proofs.Ytiifdhdhjioefaa
