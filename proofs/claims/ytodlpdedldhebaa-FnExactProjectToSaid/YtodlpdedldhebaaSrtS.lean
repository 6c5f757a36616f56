/- sort's stable sort: sort.stable_func. Proved for this program; conditions: as many elements as are told, at most a million. -/
import Derived.Test.YtodlpdedldhebaaSrtM
namespace Go.Proofs.Ytodlpdedldhebaa
open Go Go.Proofs
set_option linter.unusedVariables false
theorem dvd_lt {d p a : Nat} (hp : d ∣ p) (ha : d ∣ a) (h : p < a) : p + d ≤ a := by
  obtain ⟨u, rfl⟩ := hp
  obtain ⟨v, rfl⟩ := ha
  have : u < v := Nat.lt_of_mul_lt_mul_left h
  calc d * u + d = d * (u + 1) := by rw [Nat.mul_add, Nat.mul_one]
    _ ≤ d * v := Nat.mul_le_mul_left d this
/-- all blocks of a size are in order -/
def AllB (m bs : Nat) (ys : List (List Int)) : Prop := ∀ p, bs ∣ p → SegS leL ys p (min (p + bs) m)
/-- the blocks below a are in order -/
structure Fst (m bs a : Nat) (ys : List (List Int)) : Prop where
  dv : bs ∣ a
  lo : ∀ p, bs ∣ p → p < a → SegS leL ys p (min (p + bs) m)
theorem Fst.zero (m bs : Nat) (ys : List (List Int)) : Fst m bs 0 ys := ⟨⟨0, rfl⟩, fun p _ h => by omega⟩
theorem Fst.step {m bs a : Nat} {ys zs : List (List Int)} (h : Fst m bs a ys) (hz : Mrg leL a (a + bs) ys zs) : Fst m bs (a + bs) zs := by
  refine ⟨Nat.dvd_add h.dv ⟨1, by rw [Nat.mul_one]⟩, fun p hp hlt => ?_⟩
  rcases Nat.lt_trichotomy p a with c | rfl | c
  · have := dvd_lt hp h.dv c
    exact (h.lo p hp c).keep hz.mv (.inl (by omega))
  · exact hz.seg.less (by omega)
  · have := dvd_lt h.dv hp c
    omega
theorem Fst.last {m bs a : Nat} {ys zs : List (List Int)} (h : Fst m bs a ys) (ha : a ≤ m) (hb : m < a + bs) (hz : Mrg leL a m ys zs) : AllB m bs zs := fun p hp => by
  rcases Nat.lt_trichotomy p a with c | rfl | c
  · have := dvd_lt hp h.dv c
    exact (h.lo p hp c).keep hz.mv (.inl (by omega))
  · exact hz.seg.less (by omega)
  · have := dvd_lt h.dv hp c
    intro i j h1 h2 h3
    omega
/-- the blocks below a are merged two by two -/
structure Half (m bs a : Nat) (ys : List (List Int)) : Prop where
  dv : 2 * bs ∣ a
  lo : ∀ p, 2 * bs ∣ p → p < a → SegS leL ys p (min (p + 2 * bs) m)
  hi : ∀ p, bs ∣ p → a ≤ p → SegS leL ys p (min (p + bs) m)
theorem Half.zero {m bs : Nat} {ys : List (List Int)} (h : AllB m bs ys) : Half m bs 0 ys := ⟨⟨0, rfl⟩, fun p _ h => by omega, fun p hp _ => h p hp⟩
theorem Half.dv1 {m bs a : Nat} {ys : List (List Int)} (h : Half m bs a ys) : bs ∣ a := Nat.dvd_trans ⟨2, by omega⟩ h.dv
theorem Half.one {m bs a : Nat} {ys : List (List Int)} (h : Half m bs a ys) : SegS leL ys a (min (a + bs) m) := h.hi a h.dv1 (Nat.le_refl _)
theorem Half.two {m bs a : Nat} {ys : List (List Int)} (h : Half m bs a ys) : SegS leL ys (a + bs) (min (a + bs + bs) m) := h.hi (a + bs) (Nat.dvd_add h.dv1 ⟨1, by rw [Nat.mul_one]⟩) (by omega)
theorem Half.step {m bs a : Nat} {ys zs : List (List Int)} (h : Half m bs a ys) (hz : Mrg leL a (a + 2 * bs) ys zs) : Half m bs (a + 2 * bs) zs := by
  refine ⟨Nat.dvd_add h.dv ⟨1, by rw [Nat.mul_one]⟩, fun p hp hlt => ?_, fun p hp hle => (h.hi p hp (by omega)).keep hz.mv (.inr hle)⟩
  rcases Nat.lt_trichotomy p a with c | rfl | c
  · have := dvd_lt hp h.dv c
    exact (h.lo p hp c).keep hz.mv (.inl (by omega))
  · exact hz.seg.less (by omega)
  · have := dvd_lt h.dv hp c
    omega
theorem Half.last {m bs a : Nat} {ys zs : List (List Int)} (h : Half m bs a ys) (ha : a ≤ m) (hb : m < a + 2 * bs) (hz : Mrg leL a m ys zs) : AllB m (2 * bs) zs := fun p hp => by
  rcases Nat.lt_trichotomy p a with c | rfl | c
  · have := dvd_lt hp h.dv c
    exact (h.lo p hp c).keep hz.mv (.inl (by omega))
  · exact hz.seg.less (by omega)
  · have := dvd_lt h.dv hp c
    intro i j h1 h2 h3
    omega
theorem Mrg.same {m a : Nat} {ys : List (List Int)} (h : SegS leL ys a m) : Mrg leL a m ys ys := ⟨.refl _ _ _, h⟩
section
variable {fl fs : FuncId} {vl vs : List Value} {A : List (List Int) → HP} {m : Nat}
set_option maxRecDepth 10000 in
set_option maxHeartbeats 4000000 in
theorem stable_c (hS : Srt Try.prog fl vl fs vs A m) (xs : List (List Int)) (hx : xs.length = m) :
    Spec Try.prog 146 [vagg (dat fl vl fs vs), vint (m : Int)] [A xs] (fun r S' => ∃ ys, r = vtup [] ∧ S' = [A ys] ∧ Mrg leL 0 m xs ys) := by
  have hbig := hS.big
  refine Spec.of_run2 (n := 57) Try.func146 rfl Try.results146 Try.ntmps146 rfl ?_
  repeat' (first | (with_reducible first | refine RL.done ?_ | refine RL.app0 ?_ | refine RL.app1 ?_ | refine RL.app2 ?_ | refine RL.app3 ?_ | refine RL.app4 ?_) | (with_reducible refine RL.wanted ?_ ?_; exact rfl) | ((with_reducible show RH _ _ _ ⟨some 2, .box _ _, _, _, _, _⟩ _ _ _ _); first | (refine RH.boxAgg rfl rfl ?_; rintro _ _ ⟨b2, rfl, rfl⟩) | (refine RH.boxOne rfl rfl ?_; rintro _ _ ⟨b2, rfl, rfl⟩)) | ((with_reducible show RH _ _ _ _ _ _ _ _); first | refine RH.val (hK := ?_) | refine RH.upd (hK := ?_) | (refine RH.lr (h := ?_); intro u)) | (with_reducible first | refine Run.seq ?_ | refine Run.region ?_ | refine Run.block ?_ | refine Run.skip ?_ | refine Run.exit ?_ | refine Run.ret ?_) | (with_reducible show Run _ _ (.cond _ _ _) _ _ _; first | refine Run.condT rfl ?_ | refine Run.condF rfl ?_ | refine Run.condD rfl (fun h => ?_) (fun h => ?_) | refine Run.condND rfl (fun h => ?_) (fun h => ?_) | refine Run.condNB rfl (fun h => ?_) (fun h => ?_) | refine Run.cond rfl (fun h => ?_) (fun h => ?_)) | (with_reducible first | refine seqN (K := Run _ _ _ _) ?_ | refine seqE ?_ | refine seqR ?_ | refine blockN ?_ | refine blockR ?_ | refine blockE ?_) | (with_reducible refine blockX ?_ ?_; exact rfl))
  refine Run.loop (α := Nat × List (List Int)) (fun z => [(1, vint (m : Int)), (2, vptr b2 0), (4, vint 20), (5, vint (z.1 : Int)), (6, vint ((z.1 : Int) + 20))]) (fun z => [A z.2, hcells b2 (dat fl vl fs vs)]) (fun z => z.1 ≤ m ∧ Fst m 20 z.1 z.2 ∧ Mv 0 m xs z.2) (fun z => m - z.1) (0, xs) ⟨Nat.zero_le _, Fst.zero _ _ _, .refl _ _ _⟩ (Ent.of (by dsimp only; exact slA) chA) ?_
  rintro ⟨a, ys⟩ ⟨ha, hF, hm⟩
  (try dsimp only at ha hF hm ⊢)
  have hy : ys.length = m := hm.len.trans hx
  repeat' (first | (with_reducible first | refine RL.done ?_ | refine RL.app0 ?_ | refine RL.app1 ?_ | refine RL.app2 ?_ | refine RL.app3 ?_ | refine RL.app4 ?_) | (with_reducible refine RL.wanted ?_ ?_; exact rfl) | ((with_reducible show RH _ _ _ ⟨some 2, .box _ _, _, _, _, _⟩ _ _ _ _); first | (refine RH.boxAgg rfl rfl ?_; rintro _ _ ⟨b2, rfl, rfl⟩) | (refine RH.boxOne rfl rfl ?_; rintro _ _ ⟨b2, rfl, rfl⟩)) | ((with_reducible show RH _ _ _ ⟨_, .call ⟨.value (.func 163), _, _⟩, _, _, _, _⟩ _ _ _ _); refine RH.cW Try.call163 ?_; refine ⟨_, _, _, (by repeat (first | exact Pick.nil | (apply Pick.cons; (with_reducible repeat (first | exact Rem.head | apply Rem.tail))))), insertionSort_c hS ys hy _ _ (by omega) (by omega) (by omega), ?_⟩; rintro _ _ ⟨zs, rfl, rfl, hz⟩; refine RL.nm ?_) | ((with_reducible show RH _ _ _ _ _ _ _ _); first | refine RH.val (hK := ?_) | refine RH.upd (hK := ?_) | (refine RH.lr (h := ?_); intro u)) | (with_reducible first | refine Run.seq ?_ | refine Run.region ?_ | refine Run.block ?_ | refine Run.skip ?_ | refine Run.exit ?_ | refine Run.ret ?_) | (with_reducible show Run _ _ (.cond _ _ _) _ _ _; first | refine Run.condT rfl ?_ | refine Run.condF rfl ?_ | refine Run.condD rfl (fun h => ?_) (fun h => ?_) | refine Run.condND rfl (fun h => ?_) (fun h => ?_) | refine Run.condNB rfl (fun h => ?_) (fun h => ?_) | refine Run.cond rfl (fun h => ?_) (fun h => ?_)) | (with_reducible first | refine seqN (K := Run _ _ _ _) ?_ | refine seqE ?_ | refine seqR ?_ | refine blockN ?_ | refine blockR ?_ | refine blockE ?_) | (with_reducible refine blockX ?_ ?_; exact rfl))
  all_goals first
    | (with_reducible refine seqN ?_
       rw [Int.toNat_natCast, show ((a : Int) + 20).toNat = a + 20 by omega] at hz
       exact ⟨(a + 20, zs), ⟨by dsimp only; omega, hF.step hz, hm.trans (hz.mv.wide (by omega) (by omega))⟩, by dsimp only; omega, Ent.of (by dsimp only; exact slA) chA⟩)
    | skip
  rw [Int.toNat_natCast, Int.toNat_natCast] at hz
  have hB := hF.last ha (by omega) hz
  have hm1 : Mv 0 m xs zs := hm.trans (hz.mv.wide (by omega) (by omega))
  refine Run.loop (α := Nat × List (List Int)) (fun z => [(1, vint (m : Int)), (2, vptr b2 0), (4, vint (z.1 : Int))]) (fun z => [A z.2, hcells b2 (dat fl vl fs vs)]) (fun z => 1 ≤ z.1 ∧ AllB m z.1 z.2 ∧ Mv 0 m xs z.2) (fun z => m - z.1) (20, zs) ⟨by dsimp only; omega, hB, hm1⟩ (Ent.of (by dsimp only; exact slA) chA) ?_
  clear hB hm1 hz hF hm hy zs ys
  rintro ⟨bs, ys⟩ ⟨hbs, hB, hm⟩
  (try dsimp only at hbs hB hm ⊢)
  by_cases hlt : bs < m
  · repeat' (first | (with_reducible first | refine RL.done ?_ | refine RL.app0 ?_ | refine RL.app1 ?_ | refine RL.app2 ?_ | refine RL.app3 ?_ | refine RL.app4 ?_) | (with_reducible refine RL.wanted ?_ ?_; exact rfl) | ((with_reducible show RH _ _ _ ⟨some 2, .box _ _, _, _, _, _⟩ _ _ _ _); first | (refine RH.boxAgg rfl rfl ?_; rintro _ _ ⟨b2, rfl, rfl⟩) | (refine RH.boxOne rfl rfl ?_; rintro _ _ ⟨b2, rfl, rfl⟩)) | ((with_reducible show RH _ _ _ _ _ _ _ _); first | refine RH.val (hK := ?_) | refine RH.upd (hK := ?_) | (refine RH.lr (h := ?_); intro u)) | (with_reducible first | refine Run.seq ?_ | refine Run.region ?_ | refine Run.block ?_ | refine Run.skip ?_ | refine Run.exit ?_ | refine Run.ret ?_) | (with_reducible show Run _ _ (.cond _ _ _) _ _ _; first | refine Run.condT rfl ?_ | refine Run.condF rfl ?_ | refine Run.condD rfl (fun h => ?_) (fun h => ?_) | refine Run.condND rfl (fun h => ?_) (fun h => ?_) | refine Run.condNB rfl (fun h => ?_) (fun h => ?_) | refine Run.cond rfl (fun h => ?_) (fun h => ?_)) | (with_reducible first | refine seqN (K := Run _ _ _ _) ?_ | refine seqE ?_ | refine seqR ?_ | refine blockN ?_ | refine blockR ?_ | refine blockE ?_) | (with_reducible refine blockX ?_ ?_; exact rfl))
    all_goals first
      | (exfalso; omega)
      | skip
    refine Run.loop (α := Nat × List (List Int)) (fun z => [(1, vint (m : Int)), (2, vptr b2 0), (4, vint (bs : Int)), (5, vint (z.1 : Int)), (6, vint ((z.1 : Int) + 2 * (bs : Int)))]) (fun z => [A z.2, hcells b2 (dat fl vl fs vs)]) (fun z => z.1 ≤ m ∧ Half m bs z.1 z.2 ∧ Mv 0 m xs z.2) (fun z => m - z.1) (0, ys) ⟨Nat.zero_le _, Half.zero hB, hm⟩ (Ent.of (by dsimp only; exact slA) chA) ?_
    clear hB hm ys
    rintro ⟨a, ys⟩ ⟨hle, hH, hm⟩
    (try dsimp only at hle hH hm ⊢)
    have hy : ys.length = m := hm.len.trans hx
    have e1 : ((a : Int) + (bs : Int)).toNat = a + bs := by omega
    have e2 : ((a : Int) + 2 * (bs : Int)).toNat = a + 2 * bs := by omega
    by_cases c1 : a + 2 * bs ≤ m
    · have hX : SegS leL ys ((a : Int)).toNat ((a : Int) + (bs : Int)).toNat := by rw [e1, Int.toNat_natCast]; exact hH.one.less (by omega)
      have hY : SegS leL ys ((a : Int) + (bs : Int)).toNat ((a : Int) + 2 * (bs : Int)).toNat := by rw [e1, e2]; exact hH.two.less (by omega)
      repeat' (first | (with_reducible first | refine RL.done ?_ | refine RL.app0 ?_ | refine RL.app1 ?_ | refine RL.app2 ?_ | refine RL.app3 ?_ | refine RL.app4 ?_) | (with_reducible refine RL.wanted ?_ ?_; exact rfl) | ((with_reducible show RH _ _ _ ⟨some 2, .box _ _, _, _, _, _⟩ _ _ _ _); first | (refine RH.boxAgg rfl rfl ?_; rintro _ _ ⟨b2, rfl, rfl⟩) | (refine RH.boxOne rfl rfl ?_; rintro _ _ ⟨b2, rfl, rfl⟩)) | ((with_reducible show RH _ _ _ ⟨_, .call ⟨.value (.func 164), _, _⟩, _, _, _, _⟩ _ _ _ _); refine RH.cW Try.call164 ?_; refine ⟨_, _, _, (by repeat (first | exact Pick.nil | (apply Pick.cons; (with_reducible repeat (first | exact Rem.head | apply Rem.tail))))), symMerge_c hS (m + 1) ys hy _ _ _ (by omega) (by omega) (by omega) (by omega) (by omega) hX hY, ?_⟩; rintro _ _ ⟨zs, rfl, rfl, hz⟩; refine RL.nm ?_) | ((with_reducible show RH _ _ _ _ _ _ _ _); first | refine RH.val (hK := ?_) | refine RH.upd (hK := ?_) | (refine RH.lr (h := ?_); intro u)) | (with_reducible first | refine Run.seq ?_ | refine Run.region ?_ | refine Run.block ?_ | refine Run.skip ?_ | refine Run.exit ?_ | refine Run.ret ?_) | (with_reducible show Run _ _ (.cond _ _ _) _ _ _; first | refine Run.condT rfl ?_ | refine Run.condF rfl ?_ | refine Run.condD rfl (fun h => ?_) (fun h => ?_) | refine Run.condND rfl (fun h => ?_) (fun h => ?_) | refine Run.condNB rfl (fun h => ?_) (fun h => ?_) | refine Run.cond rfl (fun h => ?_) (fun h => ?_)) | (with_reducible first | refine seqN (K := Run _ _ _ _) ?_ | refine seqE ?_ | refine seqR ?_ | refine blockN ?_ | refine blockR ?_ | refine blockE ?_) | (with_reducible refine blockX ?_ ?_; exact rfl))
      all_goals first
        | (exfalso; omega)
        | (with_reducible refine seqN ?_
           rw [Int.toNat_natCast, e2] at hz
           exact ⟨(a + 2 * bs, zs), ⟨by dsimp only; omega, hH.step hz, hm.trans (hz.mv.wide (by omega) (by omega))⟩, by dsimp only; omega, Ent.of (by dsimp only; exact slA) chA⟩)
    · by_cases c2 : a + bs < m
      · have hX : SegS leL ys ((a : Int)).toNat ((a : Int) + (bs : Int)).toNat := by rw [e1, Int.toNat_natCast]; exact hH.one.less (by omega)
        have hY : SegS leL ys ((a : Int) + (bs : Int)).toNat ((m : Int)).toNat := by rw [e1, Int.toNat_natCast]; exact hH.two.less (by omega)
        repeat' (first | (with_reducible first | refine RL.done ?_ | refine RL.app0 ?_ | refine RL.app1 ?_ | refine RL.app2 ?_ | refine RL.app3 ?_ | refine RL.app4 ?_) | (with_reducible refine RL.wanted ?_ ?_; exact rfl) | ((with_reducible show RH _ _ _ ⟨some 2, .box _ _, _, _, _, _⟩ _ _ _ _); first | (refine RH.boxAgg rfl rfl ?_; rintro _ _ ⟨b2, rfl, rfl⟩) | (refine RH.boxOne rfl rfl ?_; rintro _ _ ⟨b2, rfl, rfl⟩)) | ((with_reducible show RH _ _ _ ⟨_, .call ⟨.value (.func 164), _, _⟩, _, _, _, _⟩ _ _ _ _); refine RH.cW Try.call164 ?_; refine ⟨_, _, _, (by repeat (first | exact Pick.nil | (apply Pick.cons; (with_reducible repeat (first | exact Rem.head | apply Rem.tail))))), symMerge_c hS (m + 1) ys hy _ _ _ (by omega) (by omega) (by omega) (by omega) (by omega) hX hY, ?_⟩; rintro _ _ ⟨zs, rfl, rfl, hz⟩; refine RL.nm ?_) | ((with_reducible show RH _ _ _ _ _ _ _ _); first | refine RH.val (hK := ?_) | refine RH.upd (hK := ?_) | (refine RH.lr (h := ?_); intro u)) | (with_reducible first | refine Run.seq ?_ | refine Run.region ?_ | refine Run.block ?_ | refine Run.skip ?_ | refine Run.exit ?_ | refine Run.ret ?_) | (with_reducible show Run _ _ (.cond _ _ _) _ _ _; first | refine Run.condT rfl ?_ | refine Run.condF rfl ?_ | refine Run.condD rfl (fun h => ?_) (fun h => ?_) | refine Run.condND rfl (fun h => ?_) (fun h => ?_) | refine Run.condNB rfl (fun h => ?_) (fun h => ?_) | refine Run.cond rfl (fun h => ?_) (fun h => ?_)) | (with_reducible first | refine seqN (K := Run _ _ _ _) ?_ | refine seqE ?_ | refine seqR ?_ | refine blockN ?_ | refine blockR ?_ | refine blockE ?_) | (with_reducible refine blockX ?_ ?_; exact rfl))
        all_goals first
          | (exfalso; omega)
          | (with_reducible refine seqN ?_
             rw [Int.toNat_natCast, Int.toNat_natCast] at hz
             exact ⟨(2 * bs, zs), ⟨by dsimp only; omega, hH.last hle (by omega) hz, hm.trans (hz.mv.wide (by omega) (by omega))⟩, by dsimp only; omega, Ent.of (by dsimp only; exact slA) chA⟩)
      · repeat' (first | (with_reducible first | refine RL.done ?_ | refine RL.app0 ?_ | refine RL.app1 ?_ | refine RL.app2 ?_ | refine RL.app3 ?_ | refine RL.app4 ?_) | (with_reducible refine RL.wanted ?_ ?_; exact rfl) | ((with_reducible show RH _ _ _ ⟨some 2, .box _ _, _, _, _, _⟩ _ _ _ _); first | (refine RH.boxAgg rfl rfl ?_; rintro _ _ ⟨b2, rfl, rfl⟩) | (refine RH.boxOne rfl rfl ?_; rintro _ _ ⟨b2, rfl, rfl⟩)) | ((with_reducible show RH _ _ _ _ _ _ _ _); first | refine RH.val (hK := ?_) | refine RH.upd (hK := ?_) | (refine RH.lr (h := ?_); intro u)) | (with_reducible first | refine Run.seq ?_ | refine Run.region ?_ | refine Run.block ?_ | refine Run.skip ?_ | refine Run.exit ?_ | refine Run.ret ?_) | (with_reducible show Run _ _ (.cond _ _ _) _ _ _; first | refine Run.condT rfl ?_ | refine Run.condF rfl ?_ | refine Run.condD rfl (fun h => ?_) (fun h => ?_) | refine Run.condND rfl (fun h => ?_) (fun h => ?_) | refine Run.condNB rfl (fun h => ?_) (fun h => ?_) | refine Run.cond rfl (fun h => ?_) (fun h => ?_)) | (with_reducible first | refine seqN (K := Run _ _ _ _) ?_ | refine seqE ?_ | refine seqR ?_ | refine blockN ?_ | refine blockR ?_ | refine blockE ?_) | (with_reducible refine blockX ?_ ?_; exact rfl))
        all_goals first
          | (exfalso; omega)
          | (with_reducible refine seqN ?_
             exact ⟨(2 * bs, ys), ⟨by dsimp only; omega, hH.last hle (by omega) (Mrg.same (hH.one.less (by omega))), hm⟩, by dsimp only; omega, Ent.of (by dsimp only; exact slA) chA⟩)
  · repeat' (first | (with_reducible first | refine RL.done ?_ | refine RL.app0 ?_ | refine RL.app1 ?_ | refine RL.app2 ?_ | refine RL.app3 ?_ | refine RL.app4 ?_) | (with_reducible refine RL.wanted ?_ ?_; exact rfl) | ((with_reducible show RH _ _ _ ⟨some 2, .box _ _, _, _, _, _⟩ _ _ _ _); first | (refine RH.boxAgg rfl rfl ?_; rintro _ _ ⟨b2, rfl, rfl⟩) | (refine RH.boxOne rfl rfl ?_; rintro _ _ ⟨b2, rfl, rfl⟩)) | ((with_reducible show RH _ _ _ _ _ _ _ _); first | refine RH.val (hK := ?_) | refine RH.upd (hK := ?_) | (refine RH.lr (h := ?_); intro u)) | (with_reducible first | refine Run.seq ?_ | refine Run.region ?_ | refine Run.block ?_ | refine Run.skip ?_ | refine Run.exit ?_ | refine Run.ret ?_) | (with_reducible show Run _ _ (.cond _ _ _) _ _ _; first | refine Run.condT rfl ?_ | refine Run.condF rfl ?_ | refine Run.condD rfl (fun h => ?_) (fun h => ?_) | refine Run.condND rfl (fun h => ?_) (fun h => ?_) | refine Run.condNB rfl (fun h => ?_) (fun h => ?_) | refine Run.cond rfl (fun h => ?_) (fun h => ?_)) | (with_reducible first | refine seqN (K := Run _ _ _ _) ?_ | refine seqE ?_ | refine seqR ?_ | refine blockN ?_ | refine blockR ?_ | refine blockE ?_) | (with_reducible refine blockX ?_ ?_; exact rfl))
    all_goals first
      | (exfalso; omega)
      | (refine ⟨eA, _, [A ys], resA, ?_, ?_⟩
         · exact SEnt.ch chA
         · exact ⟨ys, rfl, rfl, hm, (hB 0 ⟨0, rfl⟩).less (by omega)⟩)
end
end Go.Proofs.Ytodlpdedldhebaa
