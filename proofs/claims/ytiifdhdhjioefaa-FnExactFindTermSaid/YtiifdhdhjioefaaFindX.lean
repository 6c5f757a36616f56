/- The search for a term that obeys a condition, the reference: spec.FindTerm. Proved for this program; conditions: lengths below 2^62. -/
import Derived.Test.YtiifdhdhjioefaaFindW
import Derived.Test.YtiifdhdhjioefaaDerivOf
namespace Go.Proofs.Ytiifdhdhjioefaa
open Go Go.Proofs
set_option linter.unusedVariables false
theorem addQ_stp {G : List Int → Bool} {s : QS} {t : List Int} {sp : Stp} (h : StpOk s.1) (hs : sp.2.length ≤ 3) : StpOk (addQ G s t sp).1 := by
  unfold addQ
  split
  · split
    · exact h
    · split
      · exact h
      · intro x hx
        rcases List.mem_append.1 hx with h1 | h1
        · exact h x h1
        · rw [List.mem_singleton.1 h1]; exact hs
  · exact h
theorem foldQ_stp {α : Type} {g : QS → α → QS} : ∀ (l : List α), (∀ s x, x ∈ l → StpOk s.1 → StpOk (g s x).1) → ∀ s : QS, StpOk s.1 → StpOk (l.foldl g s).1
  | [], _, s, h => h
  | x :: l, hg, s, h => foldQ_stp l (fun s y hy => hg s y (by simp [hy])) _ (hg s x (by simp) h)
theorem rndQ_stp {G : List Int → Bool} {n : Int} {size : Nat} {os : List (Int × List Int)} (hops : ∀ f ∈ os, opB n f.1 f.2 = true) (K b : Nat) (s : QS) (h : StpOk s.1) : StpOk (rndQ G n size os K b s).1 := by
  refine foldQ_stp _ (fun s p hp h => ?_) s h
  refine foldQ_stp _ (fun s i hi h => ?_) s h
  have hp2 : p.1 ∈ os := List.fst_mem_of_mem_zipIdx hp
  have ho := hops _ hp2
  simp only [opB, Bool.and_eq_true, decide_eq_true_eq] at ho
  unfold stepQ
  split
  · split
    · split
      · exact h
      · exact addQ_stp h (by rw [lowd_length]; omega)
    · exact h
  · exact h
theorem findQ_stp {G : List Int → Bool} {n : Int} {size : Nat} {os : List (Int × List Int)} (hops : ∀ f ∈ os, opB n f.1 f.2 = true) : ∀ (f : Nat) (s : QS) (b : Nat), StpOk s.1 → StpOk (findQ G n size os f s b).1
  | 0, s, b, h => h
  | f + 1, s, b, h => by
    rw [findQ]
    split
    · exact findQ_stp hops f _ _ (rndQ_stp hops _ _ _ h)
    · exact h
theorem initQ_stp {G : List Int → Bool} {F : List (List Int)} : ∀ p, StpOk (initQ G F p).1
  | 0 => fun s h => by cases h
  | p + 1 => addQ_stp (initQ_stp p) (by simp)
theorem findQ_inv {G : List Int → Bool} {n : Int} {size : Nat} {os : List (Int × List Int)} (ha : algB n os = true) (hsz : size ≤ 1048576) : ∀ (f : Nat) (s : QS) (b : Nat), QInv n size s → QInv n size (findQ G n size os f s b)
  | 0, s, b, h => h
  | f + 1, s, b, h => by
    rw [findQ]
    split
    · rename_i h2
      exact findQ_inv ha hsz f _ _ (rndQ_inv (G := G) (b := b) ha hsz h (by omega) (Nat.le_refl _)).1
    · exact h
theorem seaV_ok {N k0 size : Nat} {os : List (Int × List Int)} {rs : List (List Int × List Int)} (hk : MalOk N k0 size os rs) : QInv (N : Int) (rowS N rs) (seaV N k0 size os rs) ∧ StpOk (seaV N k0 size os rs).1 := by
  have hFi := fstR_inv (k := k0) (size := size) hk.n1 rs
  have hsz := rowS_le hk.n4 hk.cond
  obtain ⟨g1, g8, g4, hops⟩ := algB_at hk.alg
  exact ⟨findQ_inv hk.alg (by omega) _ _ _ (initQ_inv hFi.row _ _ (Nat.le_refl _)), findQ_stp hops _ _ _ (initQ_stp _)⟩
set_option maxRecDepth 10000 in
set_option maxHeartbeats 4000000 in
theorem specFnd_c (n : Int) (os : List (Int × List Int)) (a : Int) (rs : List (List Int × List Int)) (hol : os.length ≤ 4611686018427387904) (ho : OpsLen os) (hl : rs.length ≤ 4611686018427387904) (hr : ∀ y ∈ rs, y.1.length ≤ 4611686018427387904 ∧ y.2.length ≤ 4611686018427387904) :
    Spec Try.prog 59 [vagg [vint n, vsl 2 (fun y : Int × (List Int) => [vint y.1, vsl 1 (fun x : Int => [vint x]) y.2]) os], vagg [vint a, vsl 2 (fun y : (List Int) × (List Int) => [vsl 1 (fun x : Int => [vint x]) y.1, vsl 1 (fun x : Int => [vint x]) y.2]) rs]] [] (FndRes n os a rs) := by
  have hM := l15Both_c n os a rs hol ho hl hr
  cases hm : mayB n os a rs with
  | false =>
    have e := fndV_no hm
    rw [hm] at hM
    refine Spec.of_run2 (n := 26) Try.func59 rfl Try.results59 Try.ntmps59 rfl ?_
    repeat' (first | (with_reducible first | refine RL.done ?_ | refine RL.app0 ?_) | (with_reducible refine RL.wanted ?_ ?_; exact rfl) | ((with_reducible show RH _ _ _ ⟨some 2, .box _ _, _, _, _, _⟩ _ _ _ _); (refine RH.boxAgg rfl rfl ?_; rintro _ _ ⟨b2, rfl, rfl⟩)) | ((with_reducible show RH _ _ _ ⟨some 3, .box _ _, _, _, _, _⟩ _ _ _ _); (refine RH.boxAgg rfl rfl ?_; rintro _ _ ⟨b3, rfl, rfl⟩)) | ((with_reducible show RH _ _ _ ⟨some 12, .buildSlice _ _ _, _, _, _, _⟩ _ _ _ _); refine RH.eff rfl rfl (EOpS.e (EOpS.slitV (by repeat (first | exact Elts.nil | apply Elts.one1 rfl | apply Elts.agg2 rfl)) (by simp) rfl rfl)) ?_; rintro _ _ ⟨b12, rfl, rfl⟩) | ((with_reducible show RH _ _ _ ⟨_, .call ⟨.value (.func 123), _, _⟩, _, _, _, _⟩ _ _ _ _); refine RH.cP Try.call123 ?_; refine ⟨_, hM, ?_⟩; rintro _ _ ⟨rfl, rfl⟩) | ((with_reducible show RH _ _ _ _ _ _ _ _); refine RH.val (hK := ?_)) | (with_reducible first | refine Run.seq ?_ | refine Run.region ?_ | refine Run.ret ?_) | (with_reducible show Run _ _ (.cond _ _ _) _ _ _; refine Run.condT rfl ?_) | (with_reducible first | refine seqN (K := Run _ _ _ _) ?_ | refine seqR ?_))
    all_goals first
      | (exfalso; simp_all; done)
      | (refine ⟨eA, _, [hsl (tPair tInt (tS tInt)) (vsv (some ⟨b12, 0, none⟩, 0, 0)) []], resA, ?_, ?_⟩
         · exact (SEnt.packNil (tPair tInt (tS tInt)) rfl).trans (SEnt.ch (.cons .head rfl .nil))
         · exact ⟨(some ⟨b12, 0, none⟩, 0, 0), by rw [e, hm]; rfl, by rw [e]; rfl⟩)
      | trace_state
  | true =>
    rw [hm] at hM
    obtain ⟨N, k0, size, rfl, rfl, hk, _⟩ := mal_ok hm
    have e := fndV_yes hm hk
    have hfind := l15Find_c N k0 size os rs hk
    obtain ⟨hQ, hns0⟩ := seaV_ok hk
    obtain ⟨S, hS⟩ : ∃ S, seaV N k0 size os rs = S := ⟨_, rfl⟩
    rw [hS] at hfind e hQ hns0
    obtain ⟨c, tr, st⟩ := S
    have hfew : c.1.length ≤ 150 := hQ.few
    have hst : c.2.length = c.1.length := hQ.inv.stp
    have hns : ∀ t ∈ c.2, t.2.length ≤ 4398046511104 := fun t ht => by have := hns0 t ht; omega
    obtain ⟨q1, q2, q3⟩ : (∀ pl tries o, SpQ (c, tr, st) pl tries o → (0 ≤ pl ↔ st = 1)) ∧ (∀ pl tries o, SpQ (c, tr, st) pl tries o → (o = true ↔ st = 3)) ∧ (st = 1 ∨ st = 2 ∨ st = 3) := ⟨fun _ _ _ h => h.1, fun _ _ _ h => h.2.1, hQ.st⟩
    by_cases h1 : st = 1
    · have hq : stepsQ (fndV (N : Int) os (k0 : Int) rs) = c.2 := by rw [e, stepsQ]; exact if_pos h1
      refine Spec.of_run2 (n := 26) Try.func59 rfl Try.results59 Try.ntmps59 rfl ?_
      repeat' (first | (with_reducible first | refine RL.done ?_ | refine RL.app0 ?_ | refine RL.app2 ?_) | (with_reducible refine RL.wanted ?_ ?_; exact rfl) | ((with_reducible show RH _ _ _ ⟨some 2, .box _ _, _, _, _, _⟩ _ _ _ _); (refine RH.boxAgg rfl rfl ?_; rintro _ _ ⟨b2, rfl, rfl⟩)) | ((with_reducible show RH _ _ _ ⟨some 3, .box _ _, _, _, _, _⟩ _ _ _ _); (refine RH.boxAgg rfl rfl ?_; rintro _ _ ⟨b3, rfl, rfl⟩)) | ((with_reducible show RH _ _ _ ⟨some 7, .alloc _, _, _, _, _⟩ _ _ _ _); refine RH.alloc rfl ?_; rintro _ _ ⟨b7, rfl, rfl⟩) | ((with_reducible show RH _ _ _ ⟨some 24, .buildSlice _ _ _, _, _, _, _⟩ _ _ _ _); refine RH.eff rfl rfl (EOpS.e (EOpS.slitV (by repeat (first | exact Elts.nil | apply Elts.one1 rfl | apply Elts.agg2 rfl)) (by simp) rfl rfl)) ?_; rintro _ _ ⟨b24, rfl, rfl⟩) | ((with_reducible show RH _ _ _ ⟨some 25, .buildSlice _ _ _, _, _, _, _⟩ _ _ _ _); refine RH.eff rfl rfl (EOpS.e (EOpS.slitV (by repeat (first | exact Elts.nil | apply Elts.one1 rfl | apply Elts.agg2 rfl)) (by simp) rfl rfl)) ?_; rintro _ _ ⟨b25, rfl, rfl⟩) | ((with_reducible show RH _ _ _ ⟨_, .call ⟨.value (.func 123), _, _⟩, _, _, _, _⟩ _ _ _ _); refine RH.cP Try.call123 ?_; refine ⟨_, hM, ?_⟩; rintro _ _ ⟨rfl, rfl⟩) | ((with_reducible show RH _ _ _ ⟨_, .call ⟨.value (.func 124), _, _⟩, _, _, _, _⟩ _ _ _ _); refine RH.cP Try.call124 ?_; refine ⟨_, hfind, ?_⟩; rintro _ _ ⟨u1, u2, pl, tries, o, rfl, rfl, hsp⟩) | ((with_reducible show RH _ _ _ ⟨_, .call ⟨.value (.func 130), _, _⟩, _, _, _, _⟩ _ _ _ _); refine RH.cL Try.call130 ?_; apply Exists.intro; apply And.intro; (focus ((repeat (first | exact LVs.nil | (apply LVs.sl; (with_reducible repeat (first | exact Has.head | apply Has.tail)); exact inferInstance; exact rfl))); done)); refine ⟨_, l12Copy_c c.2 (by omega) hns, (by intro r H h; first | (obtain ⟨rfl, rfl⟩ := h; exact ⟨inferInstance, inferInstance⟩) | (obtain ⟨_, rfl, rfl⟩ := h; exact ⟨inferInstance, inferInstance⟩) | (obtain ⟨_, _, rfl, rfl⟩ := h; exact ⟨inferInstance, inferInstance⟩) | (obtain ⟨_, _, rfl, rfl, _⟩ := h; exact ⟨inferInstance, inferInstance⟩)), ?_⟩; rintro _ _ ⟨s21, rfl, rfl⟩; refine RL.nm ?_) | ((with_reducible show RH _ _ _ _ _ _ _ _); first | refine RH.val (hK := ?_) | refine RH.upd (hK := ?_)) | (with_reducible first | refine Run.seq ?_ | refine Run.region ?_ | refine Run.skip ?_ | refine Run.ret ?_) | (with_reducible show Run _ _ (.cond _ _ _) _ _ _; first | refine Run.condF rfl ?_ | refine Run.condD rfl (fun h => ?_) (fun h => ?_) | refine Run.cond rfl (fun h => ?_) (fun h => ?_)) | (with_reducible first | refine seqN (K := Run _ _ _ _) ?_ | refine seqR ?_))
      all_goals have p1 := q1 _ _ _ hsp
      all_goals first
        | (exfalso; omega)
        | (refine ⟨eA, _, [hsl (tPair tInt (tS tInt)) (vsv s21) c.2], resA, ?_, ?_⟩
           · exact SEnt.ch chA
           · exact ⟨s21, by rw [e, hm, h1]; rfl, by rw [hq]⟩)
        | trace_state
    · have hq : stepsQ (fndV (N : Int) os (k0 : Int) rs) = [] := by rw [e, stepsQ]; exact if_neg h1
      refine Spec.of_run2 (n := 26) Try.func59 rfl Try.results59 Try.ntmps59 rfl ?_
      repeat' (first | (with_reducible first | refine RL.done ?_ | refine RL.app0 ?_ | refine RL.app2 ?_) | (with_reducible refine RL.wanted ?_ ?_; exact rfl) | ((with_reducible show RH _ _ _ ⟨some 2, .box _ _, _, _, _, _⟩ _ _ _ _); (refine RH.boxAgg rfl rfl ?_; rintro _ _ ⟨b2, rfl, rfl⟩)) | ((with_reducible show RH _ _ _ ⟨some 3, .box _ _, _, _, _, _⟩ _ _ _ _); (refine RH.boxAgg rfl rfl ?_; rintro _ _ ⟨b3, rfl, rfl⟩)) | ((with_reducible show RH _ _ _ ⟨some 7, .alloc _, _, _, _, _⟩ _ _ _ _); refine RH.alloc rfl ?_; rintro _ _ ⟨b7, rfl, rfl⟩) | ((with_reducible show RH _ _ _ ⟨some 24, .buildSlice _ _ _, _, _, _, _⟩ _ _ _ _); refine RH.eff rfl rfl (EOpS.e (EOpS.slitV (by repeat (first | exact Elts.nil | apply Elts.one1 rfl | apply Elts.agg2 rfl)) (by simp) rfl rfl)) ?_; rintro _ _ ⟨b24, rfl, rfl⟩) | ((with_reducible show RH _ _ _ ⟨some 25, .buildSlice _ _ _, _, _, _, _⟩ _ _ _ _); refine RH.eff rfl rfl (EOpS.e (EOpS.slitV (by repeat (first | exact Elts.nil | apply Elts.one1 rfl | apply Elts.agg2 rfl)) (by simp) rfl rfl)) ?_; rintro _ _ ⟨b25, rfl, rfl⟩) | ((with_reducible show RH _ _ _ ⟨_, .call ⟨.value (.func 123), _, _⟩, _, _, _, _⟩ _ _ _ _); refine RH.cP Try.call123 ?_; refine ⟨_, hM, ?_⟩; rintro _ _ ⟨rfl, rfl⟩) | ((with_reducible show RH _ _ _ ⟨_, .call ⟨.value (.func 124), _, _⟩, _, _, _, _⟩ _ _ _ _); refine RH.cP Try.call124 ?_; refine ⟨_, hfind, ?_⟩; rintro _ _ ⟨u1, u2, pl, tries, o, rfl, rfl, hsp⟩) | ((with_reducible show RH _ _ _ ⟨_, .call ⟨.value (.func 130), _, _⟩, _, _, _, _⟩ _ _ _ _); refine RH.cL Try.call130 ?_; apply Exists.intro; apply And.intro; (focus ((repeat (first | exact LVs.nil | (apply LVs.sl; (with_reducible repeat (first | exact Has.head | apply Has.tail)); exact inferInstance; exact rfl))); done)); refine ⟨_, l12Copy_c c.2 (by omega) hns, (by intro r H h; first | (obtain ⟨rfl, rfl⟩ := h; exact ⟨inferInstance, inferInstance⟩) | (obtain ⟨_, rfl, rfl⟩ := h; exact ⟨inferInstance, inferInstance⟩) | (obtain ⟨_, _, rfl, rfl⟩ := h; exact ⟨inferInstance, inferInstance⟩) | (obtain ⟨_, _, rfl, rfl, _⟩ := h; exact ⟨inferInstance, inferInstance⟩)), ?_⟩; rintro _ _ ⟨s21, rfl, rfl⟩; refine RL.nm ?_) | ((with_reducible show RH _ _ _ _ _ _ _ _); first | refine RH.val (hK := ?_) | refine RH.upd (hK := ?_)) | (with_reducible first | refine Run.seq ?_ | refine Run.region ?_ | refine Run.skip ?_ | refine Run.ret ?_) | (with_reducible show Run _ _ (.cond _ _ _) _ _ _; first | refine Run.condF rfl ?_ | refine Run.condD rfl (fun h => ?_) (fun h => ?_) | refine Run.cond rfl (fun h => ?_) (fun h => ?_)) | (with_reducible first | refine seqN (K := Run _ _ _ _) ?_ | refine seqR ?_))
      all_goals have p1 := q1 _ _ _ hsp
      all_goals have p2 := q2 _ _ _ hsp
      all_goals first
        | (exfalso; omega)
        | (have h3 : st = 3 := p2.1 (by assumption)
           refine ⟨eA, _, [hsl (tPair tInt (tS tInt)) (vsv (some ⟨b24, 0, none⟩, 0, 0)) []], resA, ?_, ?_⟩
           · exact (SEnt.packNil (tPair tInt (tS tInt)) rfl).trans (SEnt.ch (.cons .head rfl .nil))
           · exact ⟨(some ⟨b24, 0, none⟩, 0, 0), by rw [e, hm, h3]; rfl, by rw [hq]⟩)
        | (have h3 : st = 2 := by
             rcases q3 with h | h | h
             · exact absurd h h1
             · exact h
             · exact absurd (p2.2 h) (by first | assumption | (intro h; simp_all; done))
           refine ⟨eA, _, [hsl (tPair tInt (tS tInt)) (vsv (some ⟨b25, 0, none⟩, 0, 0)) []], resA, ?_, ?_⟩
           · exact (SEnt.packNil (tPair tInt (tS tInt)) rfl).trans (SEnt.ch (.cons .head rfl .nil))
           · exact ⟨(some ⟨b25, 0, none⟩, 0, 0), by rw [e, hm, h3]; rfl, by rw [hq]⟩)
        | trace_state
end Go.Proofs.Ytiifdhdhjioefaa
