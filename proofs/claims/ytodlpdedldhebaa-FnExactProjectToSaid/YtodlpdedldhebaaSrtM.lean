/- sort's merge: sort.symMerge_func. Proved for this program; conditions: places within the list, both blocks in order. -/
import Derived.Test.YtodlpdedldhebaaSrtW
namespace Go.Proofs.Ytodlpdedldhebaa
open Go Go.Proofs
set_option linter.unusedVariables false
section
variable {fl fs : FuncId} {vl vs : List Value} {A : List (List Int) → HP} {m : Nat}
set_option maxRecDepth 10000 in
set_option maxHeartbeats 8000000 in
theorem symMerge_c (hS : Srt Try.prog fl vl fs vs A m) : ∀ (d : Nat) (xs : List (List Int)) (hy : xs.length = m) (a mm b : Int) (ha : 0 ≤ a) (ham : a < mm) (hmb : mm < b) (hb : b ≤ m) (hd : b.toNat - a.toNat < d) (hX : SegS leL xs a.toNat mm.toNat) (hY : SegS leL xs mm.toNat b.toNat),
    Spec Try.prog 164 [vagg (dat fl vl fs vs), vint a, vint mm, vint b] [A xs] (fun r S' => ∃ ys, r = vtup [] ∧ S' = [A ys] ∧ Mrg leL a.toNat b.toNat xs ys)
  | 0, xs, hy, a, mm, b, ha, ham, hmb, hb, hd, hX, hY => by omega
  | d + 1, xs, hy, a, mm, b, ha, ham, hmb, hb, hd, hX, hY => by
    have ih := symMerge_c hS d
    have hbig := hS.big
    by_cases h1 : mm - a = 1
    · -- one element at the head
      refine Spec.of_run2 (n := 177) Try.func164 rfl Try.results164 Try.ntmps164 rfl ?_
      repeat' (first | (with_reducible first | refine RL.done ?_ | refine RL.app0 ?_ | refine RL.app1 ?_ | refine RL.app2 ?_ | refine RL.app3 ?_ | refine RL.app4 ?_) | (with_reducible refine RL.wanted ?_ ?_; exact rfl) | ((with_reducible show RH _ _ _ ⟨some 4, .box _ _, _, _, _, _⟩ _ _ _ _); first | (refine RH.boxAgg rfl rfl ?_; rintro _ _ ⟨b4, rfl, rfl⟩) | (refine RH.boxOne rfl rfl ?_; rintro _ _ ⟨b4, rfl, rfl⟩)) | ((with_reducible show RH _ _ _ _ _ _ _ _); first | refine RH.val (hK := ?_) | refine RH.upd (hK := ?_) | (refine RH.lr (h := ?_); intro u)) | (with_reducible show RL _ _ _ (_ :: _) _ _ _; first | refine RL.guardYes rfl rfl rfl rfl ?_ | refine RL.guardNoS rfl rfl rfl rfl rfl rfl ?_ | refine RL.guardNo0 rfl rfl rfl rfl rfl rfl ?_ | refine RL.splitD rfl rfl rfl (fun h => ?_) (fun h => ?_) | refine RL.splitND rfl rfl rfl (fun h => ?_) (fun h => ?_) | refine RL.splitNB rfl rfl rfl (fun h => ?_) (fun h => ?_) | refine RL.split rfl rfl rfl (fun h => ?_) (fun h => ?_)) | (with_reducible first | refine Run.seq ?_ | refine Run.region ?_ | refine Run.block ?_ | refine Run.skip ?_ | refine Run.exit ?_ | refine Run.ret ?_) | (with_reducible show Run _ _ (.cond _ _ _) _ _ _; first | refine Run.condT rfl ?_ | refine Run.condF rfl ?_ | refine Run.condD rfl (fun h => ?_) (fun h => ?_) | refine Run.condND rfl (fun h => ?_) (fun h => ?_) | refine Run.condNB rfl (fun h => ?_) (fun h => ?_) | refine Run.cond rfl (fun h => ?_) (fun h => ?_)) | (with_reducible first | refine seqN (K := Run _ _ _ _) ?_ | refine seqE ?_ | refine seqR ?_ | refine blockN ?_ | refine blockR ?_ | refine blockE ?_) | (with_reducible refine blockX ?_ ?_; exact rfl))
      all_goals first
        | (exfalso; omega)
        | skip
      refine Run.loop (α := Nat × Nat) (fun z => [(1, vint a), (2, vint mm), (3, vint b), (4, vptr b4 0), (8, vint (z.1 : Int)), (9, vint (z.2 : Int))]) (fun z => [A xs, hcells b4 (dat fl vl fs vs)]) (fun z => mm.toNat ≤ z.1 ∧ z.1 ≤ z.2 ∧ z.2 ≤ b.toNat ∧ (z.1 = mm.toNat ∨ leL (at' xs (z.1 - 1)) (at' xs a.toNat)) ∧ (z.2 = b.toNat ∨ leL (at' xs a.toNat) (at' xs z.2))) (fun z => z.2 - z.1) (mm.toNat, b.toNat) ⟨Nat.le_refl _, by dsimp only; omega, Nat.le_refl _, .inl rfl, .inl rfl⟩ (Ent.of (by dsimp only; exact slA) chA) ?_
      rintro ⟨i, j⟩ ⟨hi, hij, hj, hc1, hc2⟩
      (try dsimp only at hi hij hj hc1 hc2 ⊢)
      by_cases hlt : i < j
      · have em : (((i : Int) + (j : Int)) / 2).toNat = (i + j) / 2 := by omega
        repeat' (first | (with_reducible first | refine RL.done ?_ | refine RL.app0 ?_ | refine RL.app1 ?_ | refine RL.app2 ?_ | refine RL.app3 ?_ | refine RL.app4 ?_) | (with_reducible refine RL.wanted ?_ ?_; exact rfl) | ((with_reducible show RH _ _ _ ⟨some 4, .box _ _, _, _, _, _⟩ _ _ _ _); first | (refine RH.boxAgg rfl rfl ?_; rintro _ _ ⟨b4, rfl, rfl⟩) | (refine RH.boxOne rfl rfl ?_; rintro _ _ ⟨b4, rfl, rfl⟩)) | ((with_reducible show RH _ _ _ ⟨_, .call ⟨.value (.tmp _), _, _⟩, _, _, _, _⟩ _ _ _ _); refine RH.cC hS.less.enter ?_; refine ⟨_, _, _, (by repeat (first | exact Pick.nil | (apply Pick.cons; (with_reducible repeat (first | exact Rem.head | apply Rem.tail))))), hS.less.run _ _ _ hy (by omega) (by omega) (by omega) (by omega), ?_⟩; rintro _ _ ⟨rfl, rfl⟩; refine RL.nm ?_) | ((with_reducible show RH _ _ _ _ _ _ _ _); first | refine RH.val (hK := ?_) | refine RH.upd (hK := ?_) | (refine RH.lr (h := ?_); intro u)) | (with_reducible show RL _ _ _ (_ :: _) _ _ _; first | refine RL.guardYes rfl rfl rfl rfl ?_ | refine RL.guardNoS rfl rfl rfl rfl rfl rfl ?_ | refine RL.guardNo0 rfl rfl rfl rfl rfl rfl ?_ | refine RL.splitD rfl rfl rfl (fun h => ?_) (fun h => ?_) | refine RL.splitND rfl rfl rfl (fun h => ?_) (fun h => ?_) | refine RL.splitNB rfl rfl rfl (fun h => ?_) (fun h => ?_) | refine RL.split rfl rfl rfl (fun h => ?_) (fun h => ?_)) | (with_reducible first | refine Run.seq ?_ | refine Run.region ?_ | refine Run.block ?_ | refine Run.skip ?_ | refine Run.exit ?_ | refine Run.ret ?_) | (with_reducible show Run _ _ (.cond _ _ _) _ _ _; first | refine Run.condT rfl ?_ | refine Run.condF rfl ?_ | refine Run.condD rfl (fun h => ?_) (fun h => ?_) | refine Run.condND rfl (fun h => ?_) (fun h => ?_) | refine Run.condNB rfl (fun h => ?_) (fun h => ?_) | refine Run.cond rfl (fun h => ?_) (fun h => ?_)) | (with_reducible first | refine seqN (K := Run _ _ _ _) ?_ | refine seqE ?_ | refine seqR ?_ | refine blockN ?_ | refine blockR ?_ | refine blockE ?_) | (with_reducible refine blockX ?_ ?_; exact rfl))
        all_goals first
          | (exfalso; omega)
          | (with_reducible refine seqN ?_
             refine ⟨((i + j) / 2 + 1, j), ⟨by dsimp only; omega, by dsimp only; omega, hj, .inr ?_, hc2⟩, by dsimp only; omega, Ent.of (by dsimp only; exact slA) chA⟩
             dsimp only
             rw [Nat.add_sub_cancel, ← em]
             exact ltL_le (by assumption))
          | (with_reducible refine seqN ?_
             refine ⟨(i, (i + j) / 2), ⟨hi, by dsimp only; omega, by dsimp only; omega, hc1, .inr ?_⟩, by dsimp only; omega, Ent.of (by dsimp only; exact slA) chA⟩
             dsimp only
             rw [← em, leL]
             assumption)
      · obtain rfl : i = j := by omega
        repeat' (first | (with_reducible first | refine RL.done ?_ | refine RL.app0 ?_ | refine RL.app1 ?_ | refine RL.app2 ?_ | refine RL.app3 ?_ | refine RL.app4 ?_) | (with_reducible refine RL.wanted ?_ ?_; exact rfl) | ((with_reducible show RH _ _ _ ⟨some 4, .box _ _, _, _, _, _⟩ _ _ _ _); first | (refine RH.boxAgg rfl rfl ?_; rintro _ _ ⟨b4, rfl, rfl⟩) | (refine RH.boxOne rfl rfl ?_; rintro _ _ ⟨b4, rfl, rfl⟩)) | ((with_reducible show RH _ _ _ _ _ _ _ _); first | refine RH.val (hK := ?_) | refine RH.upd (hK := ?_) | (refine RH.lr (h := ?_); intro u)) | (with_reducible show RL _ _ _ (_ :: _) _ _ _; first | refine RL.guardYes rfl rfl rfl rfl ?_ | refine RL.guardNoS rfl rfl rfl rfl rfl rfl ?_ | refine RL.guardNo0 rfl rfl rfl rfl rfl rfl ?_ | refine RL.splitD rfl rfl rfl (fun h => ?_) (fun h => ?_) | refine RL.splitND rfl rfl rfl (fun h => ?_) (fun h => ?_) | refine RL.splitNB rfl rfl rfl (fun h => ?_) (fun h => ?_) | refine RL.split rfl rfl rfl (fun h => ?_) (fun h => ?_)) | (with_reducible first | refine Run.seq ?_ | refine Run.region ?_ | refine Run.block ?_ | refine Run.skip ?_ | refine Run.exit ?_ | refine Run.ret ?_) | (with_reducible show Run _ _ (.cond _ _ _) _ _ _; first | refine Run.condT rfl ?_ | refine Run.condF rfl ?_ | refine Run.condD rfl (fun h => ?_) (fun h => ?_) | refine Run.condND rfl (fun h => ?_) (fun h => ?_) | refine Run.condNB rfl (fun h => ?_) (fun h => ?_) | refine Run.cond rfl (fun h => ?_) (fun h => ?_)) | (with_reducible first | refine seqN (K := Run _ _ _ _) ?_ | refine seqE ?_ | refine seqR ?_ | refine blockN ?_ | refine blockR ?_ | refine blockE ?_) | (with_reducible refine blockX ?_ ?_; exact rfl))
        all_goals first
          | (exfalso; omega)
          | skip
        refine Run.loop (α := Nat × List (List Int)) (fun z => [(4, vptr b4 0), (8, vint (i : Int)), (11, vint (z.1 : Int))]) (fun z => [A z.2, hcells b4 (dat fl vl fs vs)]) (fun z => a.toNat ≤ z.1 ∧ z.1 ≤ i - 1 ∧ Shl a.toNat z.1 xs z.2) (fun z => i - 1 - z.1) (a.toNat, xs) ⟨Nat.le_refl _, by dsimp only; omega, Shl.zero _ _⟩ (Ent.of (by dsimp only; exact slA) chA) ?_
        rintro ⟨k, ys⟩ ⟨hk1, hk2, hsh⟩
        (try dsimp only at hk1 hk2 hsh ⊢)
        have hx := hy
        have hy : ys.length = m := hsh.mv.len.trans hx
        repeat' (first | (with_reducible first | refine RL.done ?_ | refine RL.app0 ?_ | refine RL.app1 ?_ | refine RL.app2 ?_ | refine RL.app3 ?_ | refine RL.app4 ?_) | (with_reducible refine RL.wanted ?_ ?_; exact rfl) | ((with_reducible show RH _ _ _ ⟨some 4, .box _ _, _, _, _, _⟩ _ _ _ _); first | (refine RH.boxAgg rfl rfl ?_; rintro _ _ ⟨b4, rfl, rfl⟩) | (refine RH.boxOne rfl rfl ?_; rintro _ _ ⟨b4, rfl, rfl⟩)) | ((with_reducible show RH _ _ _ ⟨_, .call ⟨.value (.tmp _), _, _⟩, _, _, _, _⟩ _ _ _ _); refine RH.eff rfl rfl (EOp.swap hS.swap rfl rfl rfl (by with_reducible repeat (first | exact Rem.head | apply Rem.tail)) hy (by omega) (by omega) (by omega) (by omega) (by omega)) ?_; rintro _ _ ⟨rfl, rfl⟩) | ((with_reducible show RH _ _ _ _ _ _ _ _); first | refine RH.val (hK := ?_) | refine RH.upd (hK := ?_) | (refine RH.lr (h := ?_); intro u)) | (with_reducible show RL _ _ _ (_ :: _) _ _ _; first | refine RL.guardYes rfl rfl rfl rfl ?_ | refine RL.guardNoS rfl rfl rfl rfl rfl rfl ?_ | refine RL.guardNo0 rfl rfl rfl rfl rfl rfl ?_ | refine RL.splitD rfl rfl rfl (fun h => ?_) (fun h => ?_) | refine RL.splitND rfl rfl rfl (fun h => ?_) (fun h => ?_) | refine RL.splitNB rfl rfl rfl (fun h => ?_) (fun h => ?_) | refine RL.split rfl rfl rfl (fun h => ?_) (fun h => ?_)) | (with_reducible first | refine Run.seq ?_ | refine Run.region ?_ | refine Run.block ?_ | refine Run.skip ?_ | refine Run.exit ?_ | refine Run.ret ?_) | (with_reducible show Run _ _ (.cond _ _ _) _ _ _; first | refine Run.condT rfl ?_ | refine Run.condF rfl ?_ | refine Run.condD rfl (fun h => ?_) (fun h => ?_) | refine Run.condND rfl (fun h => ?_) (fun h => ?_) | refine Run.condNB rfl (fun h => ?_) (fun h => ?_) | refine Run.cond rfl (fun h => ?_) (fun h => ?_)) | (with_reducible first | refine seqN (K := Run _ _ _ _) ?_ | refine seqE ?_ | refine seqR ?_ | refine blockN ?_ | refine blockR ?_ | refine blockE ?_) | (with_reducible refine blockX ?_ ?_; exact rfl))
        all_goals first
          | (with_reducible refine seqN ?_
             refine ⟨(k + 1, _), ⟨by dsimp only; omega, by dsimp only; omega, ?_⟩, by dsimp only; omega, Ent.of (by dsimp only; exact slA) chA⟩
             dsimp only
             rw [Int.toNat_natCast, show ((k : Int) + 1).toNat = k + 1 by omega]
             exact hsh.step hk1 (by omega))
          | (obtain rfl : k = i - 1 := by omega
             refine ⟨eA, _, [A ys], resA, ?_, ?_⟩
             · exact SEnt.ch chA
             · exact ⟨ys, rfl, rfl, shl_fin (by omega) hY hi hj hc1 hc2 hsh⟩)
    · by_cases h2 : b - mm = 1
      · -- one element at the end
        refine Spec.of_run2 (n := 177) Try.func164 rfl Try.results164 Try.ntmps164 rfl ?_
        repeat' (first | (with_reducible first | refine RL.done ?_ | refine RL.app0 ?_ | refine RL.app1 ?_ | refine RL.app2 ?_ | refine RL.app3 ?_ | refine RL.app4 ?_) | (with_reducible refine RL.wanted ?_ ?_; exact rfl) | ((with_reducible show RH _ _ _ ⟨some 4, .box _ _, _, _, _, _⟩ _ _ _ _); first | (refine RH.boxAgg rfl rfl ?_; rintro _ _ ⟨b4, rfl, rfl⟩) | (refine RH.boxOne rfl rfl ?_; rintro _ _ ⟨b4, rfl, rfl⟩)) | ((with_reducible show RH _ _ _ _ _ _ _ _); first | refine RH.val (hK := ?_) | refine RH.upd (hK := ?_) | (refine RH.lr (h := ?_); intro u)) | (with_reducible show RL _ _ _ (_ :: _) _ _ _; first | refine RL.guardYes rfl rfl rfl rfl ?_ | refine RL.guardNoS rfl rfl rfl rfl rfl rfl ?_ | refine RL.guardNo0 rfl rfl rfl rfl rfl rfl ?_ | refine RL.splitD rfl rfl rfl (fun h => ?_) (fun h => ?_) | refine RL.splitND rfl rfl rfl (fun h => ?_) (fun h => ?_) | refine RL.splitNB rfl rfl rfl (fun h => ?_) (fun h => ?_) | refine RL.split rfl rfl rfl (fun h => ?_) (fun h => ?_)) | (with_reducible first | refine Run.seq ?_ | refine Run.region ?_ | refine Run.block ?_ | refine Run.skip ?_ | refine Run.exit ?_ | refine Run.ret ?_) | (with_reducible show Run _ _ (.cond _ _ _) _ _ _; first | refine Run.condT rfl ?_ | refine Run.condF rfl ?_ | refine Run.condD rfl (fun h => ?_) (fun h => ?_) | refine Run.condND rfl (fun h => ?_) (fun h => ?_) | refine Run.condNB rfl (fun h => ?_) (fun h => ?_) | refine Run.cond rfl (fun h => ?_) (fun h => ?_)) | (with_reducible first | refine seqN (K := Run _ _ _ _) ?_ | refine seqE ?_ | refine seqR ?_ | refine blockN ?_ | refine blockR ?_ | refine blockE ?_) | (with_reducible refine blockX ?_ ?_; exact rfl))
        all_goals first
          | (exfalso; omega)
          | skip
        refine Run.loop (α := Nat × Nat) (fun z => [(1, vint a), (2, vint mm), (3, vint b), (4, vptr b4 0), (12, vint (z.1 : Int)), (13, vint (z.2 : Int))]) (fun z => [A xs, hcells b4 (dat fl vl fs vs)]) (fun z => a.toNat ≤ z.1 ∧ z.1 ≤ z.2 ∧ z.2 ≤ mm.toNat ∧ (z.1 = a.toNat ∨ leL (at' xs (z.1 - 1)) (at' xs mm.toNat)) ∧ (z.2 = mm.toNat ∨ leL (at' xs mm.toNat) (at' xs z.2))) (fun z => z.2 - z.1) (a.toNat, mm.toNat) ⟨Nat.le_refl _, by dsimp only; omega, Nat.le_refl _, .inl rfl, .inl rfl⟩ (Ent.of (by dsimp only; exact slA) chA) ?_
        rintro ⟨i, j⟩ ⟨hi, hij, hj, hc1, hc2⟩
        (try dsimp only at hi hij hj hc1 hc2 ⊢)
        by_cases hlt : i < j
        · have em : (((i : Int) + (j : Int)) / 2).toNat = (i + j) / 2 := by omega
          repeat' (first | (with_reducible first | refine RL.done ?_ | refine RL.app0 ?_ | refine RL.app1 ?_ | refine RL.app2 ?_ | refine RL.app3 ?_ | refine RL.app4 ?_) | (with_reducible refine RL.wanted ?_ ?_; exact rfl) | ((with_reducible show RH _ _ _ ⟨some 4, .box _ _, _, _, _, _⟩ _ _ _ _); first | (refine RH.boxAgg rfl rfl ?_; rintro _ _ ⟨b4, rfl, rfl⟩) | (refine RH.boxOne rfl rfl ?_; rintro _ _ ⟨b4, rfl, rfl⟩)) | ((with_reducible show RH _ _ _ ⟨_, .call ⟨.value (.tmp _), _, _⟩, _, _, _, _⟩ _ _ _ _); refine RH.cC hS.less.enter ?_; refine ⟨_, _, _, (by repeat (first | exact Pick.nil | (apply Pick.cons; (with_reducible repeat (first | exact Rem.head | apply Rem.tail))))), hS.less.run _ _ _ hy (by omega) (by omega) (by omega) (by omega), ?_⟩; rintro _ _ ⟨rfl, rfl⟩; refine RL.nm ?_) | ((with_reducible show RH _ _ _ _ _ _ _ _); first | refine RH.val (hK := ?_) | refine RH.upd (hK := ?_) | (refine RH.lr (h := ?_); intro u)) | (with_reducible show RL _ _ _ (_ :: _) _ _ _; first | refine RL.guardYes rfl rfl rfl rfl ?_ | refine RL.guardNoS rfl rfl rfl rfl rfl rfl ?_ | refine RL.guardNo0 rfl rfl rfl rfl rfl rfl ?_ | refine RL.splitD rfl rfl rfl (fun h => ?_) (fun h => ?_) | refine RL.splitND rfl rfl rfl (fun h => ?_) (fun h => ?_) | refine RL.splitNB rfl rfl rfl (fun h => ?_) (fun h => ?_) | refine RL.split rfl rfl rfl (fun h => ?_) (fun h => ?_)) | (with_reducible first | refine Run.seq ?_ | refine Run.region ?_ | refine Run.block ?_ | refine Run.skip ?_ | refine Run.exit ?_ | refine Run.ret ?_) | (with_reducible show Run _ _ (.cond _ _ _) _ _ _; first | refine Run.condT rfl ?_ | refine Run.condF rfl ?_ | refine Run.condD rfl (fun h => ?_) (fun h => ?_) | refine Run.condND rfl (fun h => ?_) (fun h => ?_) | refine Run.condNB rfl (fun h => ?_) (fun h => ?_) | refine Run.cond rfl (fun h => ?_) (fun h => ?_)) | (with_reducible first | refine seqN (K := Run _ _ _ _) ?_ | refine seqE ?_ | refine seqR ?_ | refine blockN ?_ | refine blockR ?_ | refine blockE ?_) | (with_reducible refine blockX ?_ ?_; exact rfl))
          all_goals first
            | (exfalso; omega)
            | (with_reducible refine seqN ?_
               refine ⟨((i + j) / 2 + 1, j), ⟨by dsimp only; omega, by dsimp only; omega, hj, .inr ?_, hc2⟩, by dsimp only; omega, Ent.of (by dsimp only; exact slA) chA⟩
               dsimp only
               rw [Nat.add_sub_cancel, ← em, leL]
               assumption)
            | (with_reducible refine seqN ?_
               refine ⟨(i, (i + j) / 2), ⟨hi, by dsimp only; omega, by dsimp only; omega, hc1, .inr ?_⟩, by dsimp only; omega, Ent.of (by dsimp only; exact slA) chA⟩
               dsimp only
               rw [← em]
               exact ltL_le (by assumption))
        · obtain rfl : i = j := by omega
          repeat' (first | (with_reducible first | refine RL.done ?_ | refine RL.app0 ?_ | refine RL.app1 ?_ | refine RL.app2 ?_ | refine RL.app3 ?_ | refine RL.app4 ?_) | (with_reducible refine RL.wanted ?_ ?_; exact rfl) | ((with_reducible show RH _ _ _ ⟨some 4, .box _ _, _, _, _, _⟩ _ _ _ _); first | (refine RH.boxAgg rfl rfl ?_; rintro _ _ ⟨b4, rfl, rfl⟩) | (refine RH.boxOne rfl rfl ?_; rintro _ _ ⟨b4, rfl, rfl⟩)) | ((with_reducible show RH _ _ _ _ _ _ _ _); first | refine RH.val (hK := ?_) | refine RH.upd (hK := ?_) | (refine RH.lr (h := ?_); intro u)) | (with_reducible show RL _ _ _ (_ :: _) _ _ _; first | refine RL.guardYes rfl rfl rfl rfl ?_ | refine RL.guardNoS rfl rfl rfl rfl rfl rfl ?_ | refine RL.guardNo0 rfl rfl rfl rfl rfl rfl ?_ | refine RL.splitD rfl rfl rfl (fun h => ?_) (fun h => ?_) | refine RL.splitND rfl rfl rfl (fun h => ?_) (fun h => ?_) | refine RL.splitNB rfl rfl rfl (fun h => ?_) (fun h => ?_) | refine RL.split rfl rfl rfl (fun h => ?_) (fun h => ?_)) | (with_reducible first | refine Run.seq ?_ | refine Run.region ?_ | refine Run.block ?_ | refine Run.skip ?_ | refine Run.exit ?_ | refine Run.ret ?_) | (with_reducible show Run _ _ (.cond _ _ _) _ _ _; first | refine Run.condT rfl ?_ | refine Run.condF rfl ?_ | refine Run.condD rfl (fun h => ?_) (fun h => ?_) | refine Run.condND rfl (fun h => ?_) (fun h => ?_) | refine Run.condNB rfl (fun h => ?_) (fun h => ?_) | refine Run.cond rfl (fun h => ?_) (fun h => ?_)) | (with_reducible first | refine seqN (K := Run _ _ _ _) ?_ | refine seqE ?_ | refine seqR ?_ | refine blockN ?_ | refine blockR ?_ | refine blockE ?_) | (with_reducible refine blockX ?_ ?_; exact rfl))
          all_goals first
            | (exfalso; omega)
            | skip
          refine Run.loop (α := Nat × List (List Int)) (fun z => [(4, vptr b4 0), (12, vint (i : Int)), (15, vint (z.1 : Int))]) (fun z => [A z.2, hcells b4 (dat fl vl fs vs)]) (fun z => i ≤ z.1 ∧ z.1 ≤ mm.toNat ∧ Shr z.1 mm.toNat xs z.2) (fun z => z.1) (mm.toNat, xs) ⟨by dsimp only; omega, Nat.le_refl _, Shr.zero _ _⟩ (Ent.of (by dsimp only; exact slA) chA) ?_
          rintro ⟨k, ys⟩ ⟨hk1, hk2, hsh⟩
          (try dsimp only at hk1 hk2 hsh ⊢)
          have hx := hy
          have hy : ys.length = m := hsh.mv.len.trans hx
          repeat' (first | (with_reducible first | refine RL.done ?_ | refine RL.app0 ?_ | refine RL.app1 ?_ | refine RL.app2 ?_ | refine RL.app3 ?_ | refine RL.app4 ?_) | (with_reducible refine RL.wanted ?_ ?_; exact rfl) | ((with_reducible show RH _ _ _ ⟨some 4, .box _ _, _, _, _, _⟩ _ _ _ _); first | (refine RH.boxAgg rfl rfl ?_; rintro _ _ ⟨b4, rfl, rfl⟩) | (refine RH.boxOne rfl rfl ?_; rintro _ _ ⟨b4, rfl, rfl⟩)) | ((with_reducible show RH _ _ _ ⟨_, .call ⟨.value (.tmp _), _, _⟩, _, _, _, _⟩ _ _ _ _); refine RH.eff rfl rfl (EOp.swap hS.swap rfl rfl rfl (by with_reducible repeat (first | exact Rem.head | apply Rem.tail)) hy (by omega) (by omega) (by omega) (by omega) (by omega)) ?_; rintro _ _ ⟨rfl, rfl⟩) | ((with_reducible show RH _ _ _ _ _ _ _ _); first | refine RH.val (hK := ?_) | refine RH.upd (hK := ?_) | (refine RH.lr (h := ?_); intro u)) | (with_reducible show RL _ _ _ (_ :: _) _ _ _; first | refine RL.guardYes rfl rfl rfl rfl ?_ | refine RL.guardNoS rfl rfl rfl rfl rfl rfl ?_ | refine RL.guardNo0 rfl rfl rfl rfl rfl rfl ?_ | refine RL.splitD rfl rfl rfl (fun h => ?_) (fun h => ?_) | refine RL.splitND rfl rfl rfl (fun h => ?_) (fun h => ?_) | refine RL.splitNB rfl rfl rfl (fun h => ?_) (fun h => ?_) | refine RL.split rfl rfl rfl (fun h => ?_) (fun h => ?_)) | (with_reducible first | refine Run.seq ?_ | refine Run.region ?_ | refine Run.block ?_ | refine Run.skip ?_ | refine Run.exit ?_ | refine Run.ret ?_) | (with_reducible show Run _ _ (.cond _ _ _) _ _ _; first | refine Run.condT rfl ?_ | refine Run.condF rfl ?_ | refine Run.condD rfl (fun h => ?_) (fun h => ?_) | refine Run.condND rfl (fun h => ?_) (fun h => ?_) | refine Run.condNB rfl (fun h => ?_) (fun h => ?_) | refine Run.cond rfl (fun h => ?_) (fun h => ?_)) | (with_reducible first | refine seqN (K := Run _ _ _ _) ?_ | refine seqE ?_ | refine seqR ?_ | refine blockN ?_ | refine blockR ?_ | refine blockE ?_) | (with_reducible refine blockX ?_ ?_; exact rfl))
          all_goals first
            | (with_reducible refine seqN ?_
               refine ⟨(k - 1, _), ⟨by dsimp only; omega, by dsimp only; omega, ?_⟩, by dsimp only; omega, Ent.of (by dsimp only; exact slA) chA⟩
               dsimp only
               rw [Int.toNat_natCast, show ((k : Int) - 1).toNat = k - 1 by omega]
               exact hsh.step (by omega) hk2 (by omega))
            | (obtain rfl : k = i := by omega
               refine ⟨eA, _, [A ys], resA, ?_, ?_⟩
               · exact SEnt.ch chA
               · rw [show b.toNat = mm.toNat + 1 by omega]
                 exact ⟨ys, rfl, rfl, shr_fin hX hi hj hc1 hc2 hsh⟩)
      · -- both blocks have two elements or more
        obtain ⟨mid, hmid⟩ : ∃ mid : Nat, (a + b) / 2 = (mid : Int) := ⟨((a + b) / 2).toNat, by omega⟩
        have hm1 : a.toNat < mid := by omega
        have hm2 : mid < b.toNat := by omega
        obtain ⟨s0, r0, h5⟩ : ∃ s0 r0 : Nat, (mid < mm.toNat ∧ (s0 : Int) = mid + mm - b ∧ r0 = mid) ∨ (mm.toNat ≤ mid ∧ s0 = a.toNat ∧ r0 = mm.toNat) := by
          by_cases c : mid < mm.toNat
          · exact ⟨mid + mm.toNat - b.toNat, mid, .inl ⟨c, by omega, rfl⟩⟩
          · exact ⟨a.toNat, mm.toNat, .inr ⟨by omega, rfl, rfl⟩⟩
        refine Spec.of_run2 (n := 177) Try.func164 rfl Try.results164 Try.ntmps164 rfl ?_
        repeat' (first | (with_reducible first | refine RL.done ?_ | refine RL.app0 ?_ | refine RL.app1 ?_ | refine RL.app2 ?_ | refine RL.app3 ?_ | refine RL.app4 ?_) | (with_reducible refine RL.wanted ?_ ?_; exact rfl) | ((with_reducible show Run _ _ (.cond (.tmp 106) _ _) (Post.seq _ _) _ _); refine Run.cut (α := Unit) (fun _ => [(1, vint a), (2, vint mm), (3, vint b), (4, vptr b4 0), (16, vint (mid : Int)), (17, vint ((mid : Int) + mm)), (18, vint (s0 : Int)), (19, vint (r0 : Int))]) (fun _ => [A xs, hcells b4 (dat fl vl fs vs)]) (fun _ => True) ?_ ?_; rotate_left; rintro _ -; (try dsimp only)) | ((with_reducible show RH _ _ _ ⟨some 4, .box _ _, _, _, _, _⟩ _ _ _ _); first | (refine RH.boxAgg rfl rfl ?_; rintro _ _ ⟨b4, rfl, rfl⟩) | (refine RH.boxOne rfl rfl ?_; rintro _ _ ⟨b4, rfl, rfl⟩)) | ((with_reducible show RH _ _ _ _ _ _ _ _); first | refine RH.val (hK := ?_) | refine RH.upd (hK := ?_) | (refine RH.lr (h := ?_); intro u)) | (with_reducible show RL _ _ _ (_ :: _) _ _ _; first | refine RL.guardYes rfl rfl rfl rfl ?_ | refine RL.guardNoS rfl rfl rfl rfl rfl rfl ?_ | refine RL.guardNo0 rfl rfl rfl rfl rfl rfl ?_ | refine RL.splitD rfl rfl rfl (fun h => ?_) (fun h => ?_) | refine RL.splitND rfl rfl rfl (fun h => ?_) (fun h => ?_) | refine RL.splitNB rfl rfl rfl (fun h => ?_) (fun h => ?_) | refine RL.split rfl rfl rfl (fun h => ?_) (fun h => ?_)) | (with_reducible first | refine Run.seq ?_ | refine Run.region ?_ | refine Run.block ?_ | refine Run.skip ?_ | refine Run.exit ?_ | refine Run.ret ?_) | (with_reducible show Run _ _ (.cond _ _ _) _ _ _; first | refine Run.condT rfl ?_ | refine Run.condF rfl ?_ | refine Run.condD rfl (fun h => ?_) (fun h => ?_) | refine Run.condND rfl (fun h => ?_) (fun h => ?_) | refine Run.condNB rfl (fun h => ?_) (fun h => ?_) | refine Run.cond rfl (fun h => ?_) (fun h => ?_)) | (with_reducible first | refine seqN (K := Run _ _ _ _) ?_ | refine seqE ?_ | refine seqR ?_ | refine blockN ?_ | refine blockR ?_ | refine blockE ?_) | (with_reducible refine blockX ?_ ?_; exact rfl))
        all_goals first
          | (exfalso; omega)
          | exact Met.mk () trivial (Ent.of slA chA)
          | skip
        refine Run.loop (α := Nat × Nat) (fun z => [(1, vint a), (2, vint mm), (3, vint b), (4, vptr b4 0), (16, vint (mid : Int)), (17, vint ((mid : Int) + mm)), (18, vint (z.1 : Int)), (19, vint (z.2 : Int)), (20, vint ((mid : Int) + mm - 1))]) (fun z => [A xs, hcells b4 (dat fl vl fs vs)]) (fun z => s0 ≤ z.1 ∧ z.1 ≤ z.2 ∧ z.2 ≤ r0 ∧ (z.1 = s0 ∨ leL (at' xs (z.1 - 1)) (at' xs (mid + mm.toNat - z.1))) ∧ (z.2 = r0 ∨ leL (at' xs (mid + mm.toNat - 1 - z.2)) (at' xs z.2))) (fun z => z.2 - z.1) (s0, r0) ⟨Nat.le_refl _, by dsimp only; omega, Nat.le_refl _, .inl rfl, .inl rfl⟩ (Ent.of (by dsimp only; exact slA) chA) ?_
        rintro ⟨i, j⟩ ⟨hi, hij, hj, hc1, hc2⟩
        (try dsimp only at hi hij hj hc1 hc2 ⊢)
        by_cases hlt : i < j
        · have em : ((mid : Int) + mm - 1 - ((i : Int) + (j : Int)) / 2).toNat = mid + mm.toNat - 1 - (i + j) / 2 := by omega
          have em2 : (((i : Int) + (j : Int)) / 2).toNat = (i + j) / 2 := by omega
          repeat' (first | (with_reducible first | refine RL.done ?_ | refine RL.app0 ?_ | refine RL.app1 ?_ | refine RL.app2 ?_ | refine RL.app3 ?_ | refine RL.app4 ?_) | (with_reducible refine RL.wanted ?_ ?_; exact rfl) | ((with_reducible show RH _ _ _ ⟨some 4, .box _ _, _, _, _, _⟩ _ _ _ _); first | (refine RH.boxAgg rfl rfl ?_; rintro _ _ ⟨b4, rfl, rfl⟩) | (refine RH.boxOne rfl rfl ?_; rintro _ _ ⟨b4, rfl, rfl⟩)) | ((with_reducible show RH _ _ _ ⟨_, .call ⟨.value (.tmp _), _, _⟩, _, _, _, _⟩ _ _ _ _); refine RH.cC hS.less.enter ?_; refine ⟨_, _, _, (by repeat (first | exact Pick.nil | (apply Pick.cons; (with_reducible repeat (first | exact Rem.head | apply Rem.tail))))), hS.less.run _ _ _ hy (by omega) (by omega) (by omega) (by omega), ?_⟩; rintro _ _ ⟨rfl, rfl⟩; refine RL.nm ?_) | ((with_reducible show RH _ _ _ _ _ _ _ _); first | refine RH.val (hK := ?_) | refine RH.upd (hK := ?_) | (refine RH.lr (h := ?_); intro u)) | (with_reducible show RL _ _ _ (_ :: _) _ _ _; first | refine RL.guardYes rfl rfl rfl rfl ?_ | refine RL.guardNoS rfl rfl rfl rfl rfl rfl ?_ | refine RL.guardNo0 rfl rfl rfl rfl rfl rfl ?_ | refine RL.splitD rfl rfl rfl (fun h => ?_) (fun h => ?_) | refine RL.splitND rfl rfl rfl (fun h => ?_) (fun h => ?_) | refine RL.splitNB rfl rfl rfl (fun h => ?_) (fun h => ?_) | refine RL.split rfl rfl rfl (fun h => ?_) (fun h => ?_)) | (with_reducible first | refine Run.seq ?_ | refine Run.region ?_ | refine Run.block ?_ | refine Run.skip ?_ | refine Run.exit ?_ | refine Run.ret ?_) | (with_reducible show Run _ _ (.cond _ _ _) _ _ _; first | refine Run.condT rfl ?_ | refine Run.condF rfl ?_ | refine Run.condD rfl (fun h => ?_) (fun h => ?_) | refine Run.condND rfl (fun h => ?_) (fun h => ?_) | refine Run.condNB rfl (fun h => ?_) (fun h => ?_) | refine Run.cond rfl (fun h => ?_) (fun h => ?_)) | (with_reducible first | refine seqN (K := Run _ _ _ _) ?_ | refine seqE ?_ | refine seqR ?_ | refine blockN ?_ | refine blockR ?_ | refine blockE ?_) | (with_reducible refine blockX ?_ ?_; exact rfl))
          all_goals first
            | (exfalso; omega)
            | (with_reducible refine seqN ?_
               refine ⟨((i + j) / 2 + 1, j), ⟨by dsimp only; omega, by dsimp only; omega, hj, .inr ?_, hc2⟩, by dsimp only; omega, Ent.of (by dsimp only; exact slA) chA⟩
               dsimp only
               rw [Nat.add_sub_cancel, show mid + mm.toNat - ((i + j) / 2 + 1) = mid + mm.toNat - 1 - (i + j) / 2 by omega, ← em, ← em2, leL]
               assumption)
            | (with_reducible refine seqN ?_
               refine ⟨(i, (i + j) / 2), ⟨hi, by dsimp only; omega, by dsimp only; omega, hc1, .inr ?_⟩, by dsimp only; omega, Ent.of (by dsimp only; exact slA) chA⟩
               dsimp only
               rw [← em, ← em2]
               exact ltL_le (by assumption))
        · obtain rfl : i = j := by omega
          have ee : ((mid : Int) + mm - (i : Int)).toNat = mid + mm.toNat - i := by omega
          have c1 : (i : Int).toNat = a.toNat ∨ ((mid : Int) + mm - (i : Int)).toNat = b.toNat ∨ leL (at' xs ((i : Int).toNat - 1)) (at' xs ((mid : Int) + mm - (i : Int)).toNat) := by
            rw [ee, Int.toNat_natCast]
            rcases hc1 with e | e
            · rcases h5 with q | q
              · exact .inr (.inl (by omega))
              · exact .inl (by omega)
            · exact .inr (.inr e)
          have c2 : (i : Int).toNat = mm.toNat ∨ ((mid : Int) + mm - (i : Int)).toNat = mm.toNat ∨ leL (at' xs (((mid : Int) + mm - (i : Int)).toNat - 1)) (at' xs (i : Int).toNat) := by
            rw [ee, Int.toNat_natCast]
            rcases hc2 with e | e
            · rcases h5 with q | q
              · exact .inr (.inl (by omega))
              · exact .inl (by omega)
            · exact .inr (.inr (by rw [show mid + mm.toNat - i - 1 = mid + mm.toNat - 1 - i by omega]; exact e))
          repeat' (first | (with_reducible first | refine RL.done ?_ | refine RL.app0 ?_ | refine RL.app1 ?_ | refine RL.app2 ?_ | refine RL.app3 ?_ | refine RL.app4 ?_) | (with_reducible refine RL.wanted ?_ ?_; exact rfl) | ((with_reducible show Run _ _ (.cond (.tmp 145) _ _) (Post.seq _ _) _ _); refine Run.cut (α := List (List Int)) (fun _ => [(1, vint a), (3, vint b), (4, vptr b4 0), (16, vint (mid : Int)), (18, vint (i : Int)), (22, vint ((mid : Int) + mm - (i : Int)))]) (fun ys => [A ys, hcells b4 (dat fl vl fs vs)]) (fun ys => Rot (i : Int).toNat mm.toNat ((mid : Int) + mm - (i : Int)).toNat xs ys) ?_ ?_; rotate_left; rintro ys hrot; (try dsimp only); have hyl : ys.length = m := hrot.mv.len.trans hy; obtain ⟨hlo1, hlo2, hhi01, hhi02⟩ := merge_low (mid := mid) hX hY (by omega) (by omega) (by omega) (by omega) (by omega) hrot) | ((with_reducible show Run _ _ (.cond (.tmp 158) _ _) (Post.seq _ _) _ _); refine Run.cut (α := List (List Int)) (fun _ => [(3, vint b), (4, vptr b4 0), (16, vint (mid : Int)), (22, vint ((mid : Int) + mm - (i : Int)))]) (fun zs => [A zs, hcells b4 (dat fl vl fs vs)]) (fun zs => Mrg leL a.toNat mid ys zs) ?_ ?_; rotate_left; rintro zs hlo; (try dsimp only); have hzl : zs.length = m := hlo.mv.len.trans hyl; have hhi1 := hhi01.keep hlo.mv (.inr (Nat.le_refl _)); have hhi2 := hhi02.keep hlo.mv (.inr (by omega))) | ((with_reducible show RH _ _ _ ⟨some 4, .box _ _, _, _, _, _⟩ _ _ _ _); first | (refine RH.boxAgg rfl rfl ?_; rintro _ _ ⟨b4, rfl, rfl⟩) | (refine RH.boxOne rfl rfl ?_; rintro _ _ ⟨b4, rfl, rfl⟩)) | ((with_reducible show RH _ _ _ ⟨_, .call ⟨.value (.func 168), _, _⟩, _, _, _, _⟩ _ _ _ _); refine RH.cW Try.call168 ?_; refine ⟨_, _, _, (by repeat (first | exact Pick.nil | (apply Pick.cons; (with_reducible repeat (first | exact Rem.head | apply Rem.tail))))), rotate_c hS xs hy _ _ _ (by omega) (by omega) (by omega) (by omega), ?_⟩; rintro _ _ ⟨ys, rfl, rfl, hrot⟩; refine RL.nm ?_) | ((with_reducible show RH _ _ _ ⟨_, .call ⟨.value (.func 164), _, _⟩, _, _, _, _⟩ _ _ _ _); refine RH.cW Try.call164 ?_; refine ⟨_, _, _, (by repeat (first | exact Pick.nil | (apply Pick.cons; (with_reducible repeat (first | exact Rem.head | apply Rem.tail))))), ih ys hyl _ _ _ (by omega) (by omega) (by omega) (by omega) (by omega) hlo1 hlo2, ?_⟩; rintro _ _ ⟨zs, rfl, rfl, hlo⟩; refine RL.nm ?_) | ((with_reducible show RH _ _ _ ⟨_, .call ⟨.value (.func 164), _, _⟩, _, _, _, _⟩ _ _ _ _); refine RH.cW Try.call164 ?_; refine ⟨_, _, _, (by repeat (first | exact Pick.nil | (apply Pick.cons; (with_reducible repeat (first | exact Rem.head | apply Rem.tail))))), ih zs hzl _ _ _ (by omega) (by omega) (by omega) (by omega) (by omega) hhi1 hhi2, ?_⟩; rintro _ _ ⟨ws, rfl, rfl, hhi⟩; refine RL.nm ?_) | ((with_reducible show RH _ _ _ _ _ _ _ _); first | refine RH.val (hK := ?_) | refine RH.upd (hK := ?_) | (refine RH.lr (h := ?_); intro u)) | (with_reducible show RL _ _ _ (_ :: _) _ _ _; first | refine RL.guardYes rfl rfl rfl rfl ?_ | refine RL.guardNoS rfl rfl rfl rfl rfl rfl ?_ | refine RL.guardNo0 rfl rfl rfl rfl rfl rfl ?_ | refine RL.splitD rfl rfl rfl (fun h => ?_) (fun h => ?_) | refine RL.splitND rfl rfl rfl (fun h => ?_) (fun h => ?_) | refine RL.splitNB rfl rfl rfl (fun h => ?_) (fun h => ?_) | refine RL.split rfl rfl rfl (fun h => ?_) (fun h => ?_)) | (with_reducible first | refine Run.seq ?_ | refine Run.region ?_ | refine Run.block ?_ | refine Run.skip ?_ | refine Run.exit ?_ | refine Run.ret ?_) | (with_reducible show Run _ _ (.cond _ _ _) _ _ _; first | refine Run.condT rfl ?_ | refine Run.condF rfl ?_ | refine Run.condD rfl (fun h => ?_) (fun h => ?_) | refine Run.condND rfl (fun h => ?_) (fun h => ?_) | refine Run.condNB rfl (fun h => ?_) (fun h => ?_) | refine Run.cond rfl (fun h => ?_) (fun h => ?_)) | (with_reducible first | refine seqN (K := Run _ _ _ _) ?_ | refine seqE ?_ | refine seqR ?_ | refine blockN ?_ | refine blockR ?_ | refine blockE ?_) | (with_reducible refine blockX ?_ ?_; exact rfl))
          all_goals first
            | (exfalso; omega)
            | exact Met.mk ys hrot (Ent.of slA chA)
            | exact Met.mk xs (Rot.none _ (by omega) (by omega) (by omega)) (Ent.of slA chA)
            | exact Met.mk zs hlo (Ent.of slA chA)
            | exact Met.mk ys ⟨.refl _ _ _, hlo1.join hlo2 (by omega)⟩ (Ent.of slA chA)
            | (refine ⟨eA, _, [A ws], resA, ?_, ?_⟩
               · exact SEnt.ch chA
               · exact ⟨ws, rfl, rfl, merge_parts leL_trans hX hY (by omega) (by omega) (by omega) (by omega) (by omega) (by omega) c1 c2 hrot hlo hhi⟩)
            | (refine ⟨eA, _, [A zs], resA, ?_, ?_⟩
               · exact SEnt.ch chA
               · exact ⟨zs, rfl, rfl, merge_parts leL_trans hX hY (by omega) (by omega) (by omega) (by omega) (by omega) (by omega) c1 c2 hrot hlo ⟨.refl _ _ _, hhi1.join hhi2 (by omega)⟩⟩)
end
end Go.Proofs.Ytodlpdedldhebaa
