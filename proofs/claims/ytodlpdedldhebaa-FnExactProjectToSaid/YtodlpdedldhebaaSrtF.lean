/- sort.SliceStable of a list of frozen rows; impl.sortRows by compareLists. Proved for this program; conditions: at most a million rows, lengths below 2^62. -/
import Derived.Test.YtodlpdedldhebaaSrtE
namespace Go.Proofs.Ytodlpdedldhebaa
open Go Go.Proofs
set_option linter.unusedVariables false
def Few (xs : List (List Int)) : Prop := ∀ t ∈ xs, t.length ≤ 4611686018427387904
/-- the list that is sorted, with what its order function holds -/
abbrev srtA (s : Sv) (G : HP) : List (List Int) → HP := fun xs => hstar (hsl (tS tInt) (vsv s) xs) (hand (Few xs) G)
theorem Run.lenH {P : Program} {n : Nat} {x : Code} {Q : Post} {φ : Slots} {α : Type} {t : TR α} {s : Sv} {xs : List α} {S : List HP} (hh : Has S (hsl t (vsv s) xs)) (hr : s.2.1 = xs.length → Run P n x Q φ S) : Run P n x Q φ S :=
  ⟨fun c a hf ⟨fs, hs⟩ => by
    obtain ⟨f, _, hp⟩ := hh.get hs.all
    obtain ⟨ao, cap, e⟩ := ownS.shape hp
    injection e with _ e2 _
    exact (hr e2).run c a hf ⟨fs, hs⟩⟩
theorem swpFew (s : Sv) (G : HP) : Swp Try.prog (swpF s.2.1) (swpV s) (srtA s G) s.2.1 := by
  refine ⟨fun xs i j c S hl hi hj hij hs => ?_⟩
  obtain ⟨fs, hs0⟩ := hs
  obtain ⟨f, gs, rfl, f1, f2, rfl, h1, hp, h2⟩ := hs0.head
  have hs1 : SH c (hstar (hsl (tS tInt) (vsv s) xs) G :: S) := ⟨_, hs0.turn ⟨f1, f2, rfl, h1, h2⟩⟩
  obtain ⟨v, w', F', e1, e2, ⟨fs3, hs3⟩⟩ := (swpS s G).run xs i j c S hl hi hj hij hs1
  obtain ⟨f3, gs3, rfl, f4, f5, rfl, h3, h4⟩ := hs3.head
  refine ⟨v, w', F', e1, e2, ⟨_, hs3.turn ⟨f4, f5, rfl, h3, ?_, h4⟩⟩⟩
  intro t ht
  exact hp t ((swapL_perm (by omega) (by omega)).mem_iff.2 ht)
set_option maxRecDepth 10000 in
set_option maxHeartbeats 2000000 in
theorem SliceStable_c {fl : FuncId} {vl : List Value} (s : Sv) (G : HP) (hL : Lss Try.prog fl vl (srtA s G) s.2.1) (hb : s.2.1 ≤ 1000000) (xs : List (List Int)) (hx : xs.length = s.2.1) :
    Spec Try.prog 135 [vlit (.iface 22 (vsv s)), vlit (.func (.func fl) #[] vl.toArray)] [srtA s G xs] (fun r S' => ∃ ys, r = vtup [] ∧ S' = [srtA s G ys] ∧ Mrg leL 0 s.2.1 xs ys) := by
  have hS : Srt Try.prog fl vl (swpF s.2.1) (swpV s) (srtA s G) s.2.1 := ⟨hL, swpFew s G, hb⟩
  refine Spec.of_run2 (n := 16) Try.func135 rfl Try.results135 Try.ntmps135 rfl ?_
  repeat' (first | (with_reducible first | refine RL.done ?_ | refine RL.app0 ?_ | refine RL.app1 ?_ | refine RL.app2 ?_ | refine RL.app3 ?_ | refine RL.app4 ?_) | (with_reducible refine RL.wanted ?_ ?_; exact rfl) | ((with_reducible show RH _ _ _ ⟨some 4, .alloc _, _, _, _, _⟩ _ _ _ _); refine RH.alloc rfl ?_; rintro _ _ ⟨b4, rfl, rfl⟩) | ((with_reducible show RH _ _ _ ⟨_, .call ⟨.value (.func 144), _, _⟩, _, _, _, _⟩ _ _ _ _); refine RH.eff rfl rfl (EOp.valueOf extV infoSS rfl rfl) ?_; rintro _ _ ⟨bv, rfl, rfl⟩) | ((with_reducible show RH _ _ _ ⟨_, .call ⟨.value (.func 145), _, _⟩, _, _, _, _⟩ _ _ _ _); refine RH.value rfl rfl (VOp.swapper extS infoSS rfl infoS (fun w => Lib.rl_kind _ _ _ infoS rfl w) (swpIdx _) rfl) ?_; rw [swpVal]) | ((with_reducible show RH _ _ _ ⟨_, .call ⟨.value (.func 147), _, _⟩, _, _, _, _⟩ _ _ _ _); refine RH.value rfl rfl (VOp.lenV extL infoSS rfl packSS rfl (by with_reducible repeat (first | exact Has.head | apply Has.tail))) ?_) | ((with_reducible show RH _ _ _ ⟨_, .call ⟨.value (.func 146), _, _⟩, _, _, _, _⟩ _ _ _ _); refine RH.cW Try.call146 ?_; refine ⟨_, _, _, (by repeat (first | exact Pick.nil | (apply Pick.cons; (with_reducible repeat (first | exact Rem.head | apply Rem.tail))))), stable_c hS xs hx, ?_⟩; rintro _ _ ⟨ys, rfl, rfl, hm⟩; refine RL.nm ?_) | ((with_reducible show RH _ _ _ _ _ _ _ _); first | refine RH.val (hK := ?_) | refine RH.upd (hK := ?_) | (refine RH.lr (h := ?_); intro u)) | (with_reducible first | refine Run.seq ?_ | refine Run.region ?_ | refine Run.block ?_ | refine Run.skip ?_ | refine Run.exit ?_ | refine Run.ret ?_) | (with_reducible show Run _ _ (.cond _ _ _) _ _ _; first | refine Run.condT rfl ?_ | refine Run.condF rfl ?_ | refine Run.condD rfl (fun h => ?_) (fun h => ?_) | refine Run.condND rfl (fun h => ?_) (fun h => ?_) | refine Run.condNB rfl (fun h => ?_) (fun h => ?_) | refine Run.cond rfl (fun h => ?_) (fun h => ?_)) | (with_reducible first | refine seqN (K := Run _ _ _ _) ?_ | refine seqE ?_ | refine seqR ?_ | refine blockN ?_ | refine blockR ?_ | refine blockE ?_) | (with_reducible refine blockX ?_ ?_; exact rfl))
  refine ⟨eA, _, [srtA s G ys], resA, ?_, ?_⟩
  · exact SEnt.ch chA
  · exact ⟨ys, rfl, rfl, hm⟩
set_option maxRecDepth 10000 in
set_option maxHeartbeats 2000000 in
theorem sortLess_f (xs : List (List Int)) (hr : Few xs) (i j : Int) (hi0 : 0 ≤ i) (hi : i.toNat < xs.length) (hj0 : 0 ≤ j) (hj : j.toNat < xs.length) :
    Spec Try.prog 136 [vint i, vint j, vfp [vlit (.func (.func 109) #[] #[])], vfp [vsl 1 (fun t : List Int => [vsl 1 (fun x : Int => [vint x]) t]) xs]] [] (fun r S' => r = vbool (ltL (at' xs i.toNat) (at' xs j.toNat)) ∧ S' = []) := by
  rw [ltL_eq, at_eq hi, at_eq hj]
  refine Spec.of_run2 (n := 18) Try.func136 rfl Try.results136 Try.ntmps136 rfl ?_
  repeat' (first | (with_reducible first | refine RL.done ?_ | refine RL.app0 ?_ | refine RL.app1 ?_ | refine RL.app2 ?_ | refine RL.app3 ?_ | refine RL.app4 ?_ | refine RD.app0 ?_ | refine RD.app1 ?_ | refine RD.app2 ?_) | (with_reducible refine RL.wanted ?_ ?_; exact rfl) | ((with_reducible show Run _ _ (.region 1 _ true) _ _ _); refine Run.regionD (fun i => i == 9) rfl ?_; change RD _ _ _ _ _ _ 12 (dm 12 0) _ _) | ((with_reducible show RD _ _ 1 _ _ _ _ _ _ _); first | ((with_reducible show RD _ _ _ _ _ _ _ (dm 12 0) _ _); first | refine RD.tk 0 (dm 12 3584) (dm 12 1) (hK := ?_) | (refine RD.lr 0 (dm 12 3584) (dm 12 1) (h := ?_); intro u)) | ((with_reducible show RD _ _ _ _ _ _ _ (dm 12 1) _ _); first | refine RD.tk 1 (dm 12 3608) (dm 12 3) (hK := ?_) | (refine RD.lr 1 (dm 12 3608) (dm 12 3) (h := ?_); intro u)) | ((with_reducible show RD _ _ _ _ _ _ _ (dm 12 3) _ _); refine RD.tk 2 (dm 12 3608) (dm 12 7) (hK := ?_)) | ((with_reducible show RD _ _ _ _ _ _ _ (dm 12 7) _ _); refine RD.tk 3 (dm 12 3600) (dm 12 15) (hK := ?_)) | ((with_reducible show RD _ _ _ _ _ _ _ (dm 12 15) _ _); first | refine RD.tk 4 (dm 12 3584) (dm 12 31) (hK := ?_) | (refine RD.lr 4 (dm 12 3584) (dm 12 31) (h := ?_); intro u)) | ((with_reducible show RD _ _ _ _ _ _ _ (dm 12 31) _ _); first | refine RD.tk 5 (dm 12 3968) (dm 12 63) (hK := ?_) | (refine RD.lr 5 (dm 12 3968) (dm 12 63) (h := ?_); intro u)) | ((with_reducible show RD _ _ _ _ _ _ _ (dm 12 63) _ _); refine RD.tk 6 (dm 12 3968) (dm 12 127) (hK := ?_)) | ((with_reducible show RD _ _ _ _ _ _ _ (dm 12 127) _ _); refine RD.tk 7 (dm 12 3840) (dm 12 255) (hK := ?_)) | ((with_reducible show RD _ _ _ _ _ _ _ (dm 12 255) _ _); first | refine RD.tk 8 (dm 12 3584) (dm 12 511) (hK := ?_) | (refine RD.lr 8 (dm 12 3584) (dm 12 511) (h := ?_); intro u)) | ((with_reducible show RD _ _ _ _ _ _ _ (dm 12 511) _ _); refine RD.a1 9 ?_) | ((with_reducible show RD _ _ _ _ _ _ _ (dm 12 1023) _ _); refine RD.tk 10 (dm 12 2048) (dm 12 2047) (hK := ?_)) | ((with_reducible show RD _ _ _ _ _ _ _ (dm 12 2047) _ _); refine RD.tk 11 (dm 12 0) (dm 12 4095) (hK := ?_)) | ((with_reducible show RD _ _ _ _ _ _ 0 _ _ _); refine RD.done (by kernel_rfl) ?_)) | ((with_reducible show RO _ _ 1 _ _ _ _ _ _ _ _); ((with_reducible show RO _ _ _ _ _ _ _ (dm 12 511) 9 _ _); (refine RO.h (dm 12 1023) ?_; show RH _ _ _ ⟨_, _, _, _, _, _⟩ _ _ _ _))) | ((with_reducible show RH _ _ _ ⟨_, .call ⟨.value (.tmp _), _, _⟩, _, _, _, _⟩ _ _ _ _); refine RH.cC Try.call109 ?_; refine ⟨_, _, _, (by repeat (first | exact Pick.nil | (apply Pick.cons; (with_reducible repeat (first | exact Rem.head | apply Rem.tail))))), compareLists_c _ _ (hr _ (List.getElem_mem _)) (hr _ (List.getElem_mem _)), ?_⟩; rintro _ _ ⟨rfl, rfl⟩; refine RL.nm ?_) | ((with_reducible show RH _ _ _ _ _ _ _ _); first | refine RH.val (hK := ?_) | refine RH.upd (hK := ?_) | (refine RH.lr (h := ?_); intro u)) | (with_reducible first | refine Run.seq ?_ | refine Run.region ?_ | refine Run.block ?_ | refine Run.skip ?_ | refine Run.exit ?_ | refine Run.ret ?_) | (with_reducible show Run _ _ (.cond _ _ _) _ _ _; first | refine Run.condT rfl ?_ | refine Run.condF rfl ?_ | refine Run.condD rfl (fun h => ?_) (fun h => ?_) | refine Run.condND rfl (fun h => ?_) (fun h => ?_) | refine Run.condNB rfl (fun h => ?_) (fun h => ?_) | refine Run.cond rfl (fun h => ?_) (fun h => ?_)) | (with_reducible first | refine seqN (K := Run _ _ _ _) ?_ | refine seqE ?_ | refine seqR ?_ | refine blockN ?_ | refine blockR ?_ | refine blockE ?_) | (with_reducible refine blockX ?_ ?_; exact rfl))
  all_goals
    refine ⟨eA, _, [], resA, .ch .nil, ?_⟩
    exact ⟨rfl, rfl⟩
theorem sortLess_c (s : Sv) (xs : List (List Int)) (hr : Few xs) (b2 b3 : Nat) (i j : Int) (hi0 : 0 ≤ i) (hi : i.toNat < xs.length) (hj0 : 0 ≤ j) (hj : j.toNat < xs.length) :
    Spec Try.prog 136 [vint i, vint j, vptr b3 0, vptr b2 0] [hcells b3 [vlit (.func (.func 109) #[] #[])], hcells b2 [vlit (vsv s)], hsl (tS tInt) (vsv s) xs]
      (fun r S' => r = vbool (ltL (at' xs i.toNat) (at' xs j.toNat)) ∧ S' = [hcells b3 [vlit (.func (.func 109) #[] #[])], hcells b2 [vlit (vsv s)], hsl (tS tInt) (vsv s) xs]) := by
  refine (Spec.lend (B := [hcells b3 [vlit (.func (.func 109) #[] #[])], hcells b2 [vlit (vsv s)], hsl (tS tInt) (vsv s) xs]) (S := []) (sortLess_f xs hr i j hi0 hi hj0 hj) ?_ ?_).mono ?_
  · intro c vs fs ha hB hF
    cases ha with
    | cons p1 ha =>
      cases ha with
      | cons p2 ha =>
        cases ha with
        | cons p3 ha =>
          cases ha with
          | cons p4 ha =>
            cases ha
            cases hB with
            | cons h1 hB =>
              cases hB with
              | cons h2 hB =>
                cases hB with
                | cons h3 hB =>
                  cases hB
                  obtain ⟨rfl, _, h4⟩ := h1
                  obtain ⟨rfl, _, h5⟩ := h2
                  refine .cons p1 (.cons p2 (.cons ⟨b3, 0, p3, hF b3 (by simp), h4⟩ (.cons ⟨b2, 0, p4, hF b2 (by simp), fun k q hq => ?_⟩ .nil)))
                  match k, hq with
                  | 0, hq =>
                    cases hq
                    obtain ⟨v, h6, h7⟩ := h5 0 _ rfl
                    cases h7
                    exact ⟨_, h6, ownS.frz (t := tS tInt) h3 (fun b hb => hF b (by simp [hb]))⟩
  · rintro r H ⟨rfl, rfl⟩
    exact ⟨inferInstance, inferInstance⟩
  · rintro r S' ⟨H, ⟨rfl, rfl⟩, rfl⟩
    exact ⟨rfl, rfl⟩
abbrev srtG (b2 b3 : Nat) (s : Sv) : HP := hstar (hcells b3 [vlit (.func (.func 109) #[] #[])]) (hcells b2 [vlit (vsv s)])
theorem sortLss (s : Sv) (b2 b3 : Nat) : Lss Try.prog 136 [.pointer (some ⟨b3, 0, none⟩), .pointer (some ⟨b2, 0, none⟩)] (srtA s (srtG b2 b3 s)) s.2.1 := by
  refine ⟨Try.call136, fun xs i j hl hi0 hi hj0 hj => ?_⟩
  refine Spec.pre SEnt.unstar (Spec.pre (SEnt.pick (.cons (.tail .head) (.cons .head .nil))) (Spec.hand fun hp => Spec.pre SEnt.unstar ?_))
  refine (sortLess_c s xs hp b2 b3 i j hi0 (by omega) hj0 (by omega)).post ?_
  rintro r _ ⟨rfl, rfl⟩
  exact SImp.of (SEnt.star.trans ((SEnt.hand hp).trans ((SEnt.pick (.cons (.tail .head) (.cons .head .nil))).trans SEnt.star))) ⟨rfl, rfl⟩
theorem sortCall_c (s : Sv) (b2 b3 : Nat) (hb : s.2.1 ≤ 1000000) (xs : List (List Int)) (hx : s.2.1 = xs.length) (hp : Few xs) :
    Spec Try.prog 135 [vlit (.iface 22 (vsv s)), vlit (.func (.func 136) #[] #[.pointer (some ⟨b3, 0, none⟩), .pointer (some ⟨b2, 0, none⟩)])] [hcells b3 [vlit (.func (.func 109) #[] #[])], hcells b2 [vlit (vsv s)], hsl (tS tInt) (vsv s) xs] (fun r S' => ∃ ys, r = vtup [] ∧ S' = [srtA s (srtG b2 b3 s) ys] ∧ Mrg leL 0 s.2.1 xs ys) :=
  Spec.pre (SEnt.star.trans ((SEnt.hand hp).trans ((SEnt.pick (.cons (.tail .head) (.cons .head .nil))).trans SEnt.star))) (SliceStable_c s (srtG b2 b3 s) (sortLss s b2 b3) hb xs hx.symm)
set_option maxRecDepth 10000 in
set_option maxHeartbeats 2000000 in
theorem sortRows_c (s : Sv) (xs : List (List Int)) (hr : Few xs) (hb : xs.length ≤ 1000000) :
    Spec Try.prog 108 [vlit (vsv s), vlit (.func (.func 109) #[] #[])] [hsl (tS tInt) (vsv s) xs] (fun r S' => ∃ ys, r = vtup [] ∧ S' = [hsl (tS tInt) (vsv s) ys] ∧ Mrg leL 0 xs.length xs ys) := by
  refine Spec.of_run2 (n := 8) Try.func108 rfl Try.results108 Try.ntmps108 rfl ?_
  refine Run.lenH .head ?_
  intro hlen
  repeat' (first | (with_reducible first | refine RL.done ?_ | refine RL.app0 ?_ | refine RL.app1 ?_ | refine RL.app2 ?_ | refine RL.app3 ?_ | refine RL.app4 ?_) | (with_reducible refine RL.wanted ?_ ?_; exact rfl) | ((with_reducible show RH _ _ _ ⟨some 2, .box _ _, _, _, _, _⟩ _ _ _ _); first | (refine RH.boxAgg rfl rfl ?_; rintro _ _ ⟨b2, rfl, rfl⟩) | (refine RH.boxOne rfl rfl ?_; rintro _ _ ⟨b2, rfl, rfl⟩)) | ((with_reducible show RH _ _ _ ⟨some 3, .box _ _, _, _, _, _⟩ _ _ _ _); first | (refine RH.boxAgg rfl rfl ?_; rintro _ _ ⟨b3, rfl, rfl⟩) | (refine RH.boxOne rfl rfl ?_; rintro _ _ ⟨b3, rfl, rfl⟩)) | ((with_reducible show RH _ _ _ ⟨_, .makeInterface _ _, _, _, _, _⟩ _ _ _ _); refine RH.value rfl rfl (VOp.iface rfl) ?_) | ((with_reducible show RH _ _ _ ⟨_, .call ⟨.value (.func 135), _, _⟩, _, _, _, _⟩ _ _ _ _); refine RH.cW Try.call135 ?_; refine ⟨_, _, _, (by repeat (first | exact Pick.nil | (apply Pick.cons; (with_reducible repeat (first | exact Rem.head | apply Rem.tail))))), sortCall_c s b2 b3 (by omega) xs hlen hr, ?_⟩; rintro _ _ ⟨ys, rfl, rfl, hm⟩; refine RL.nm ?_) | ((with_reducible show RH _ _ _ _ _ _ _ _); first | refine RH.val (hK := ?_) | refine RH.upd (hK := ?_) | (refine RH.lr (h := ?_); intro u)) | (with_reducible first | refine Run.seq ?_ | refine Run.region ?_ | refine Run.block ?_ | refine Run.skip ?_ | refine Run.exit ?_ | refine Run.ret ?_) | (with_reducible show Run _ _ (.cond _ _ _) _ _ _; first | refine Run.condT rfl ?_ | refine Run.condF rfl ?_ | refine Run.condD rfl (fun h => ?_) (fun h => ?_) | refine Run.condND rfl (fun h => ?_) (fun h => ?_) | refine Run.condNB rfl (fun h => ?_) (fun h => ?_) | refine Run.cond rfl (fun h => ?_) (fun h => ?_)) | (with_reducible first | refine seqN (K := Run _ _ _ _) ?_ | refine seqE ?_ | refine seqR ?_ | refine blockN ?_ | refine blockR ?_ | refine blockE ?_) | (with_reducible refine blockX ?_ ?_; exact rfl))
  refine ⟨eA, _, [hsl (tS tInt) (vsv s) ys], resA, ?_, ?_⟩
  · exact (SEnt.pick (.cons .head .nil)).trans (SEnt.unstar.trans (SEnt.ch chA))
  · rw [hlen] at hm
    exact ⟨ys, rfl, rfl, hm⟩
end Go.Proofs.Ytodlpdedldhebaa
