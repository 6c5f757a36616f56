/- The search for a row that is good: impl.searchRows. Proved for this program; conditions: rows of at most 192 places, elements below 8, up to 3 first rows. -/
import Derived.Test.YtiifdhdhjioefaaFindR
namespace Go.Proofs.Ytiifdhdhjioefaa
open Go Go.Proofs
set_option linter.unusedVariables false
/-- the search, from the first rows on -/
def seaQ (G : List Int → Bool) (n : Int) (size : Nat) (os : List (Int × List Int)) (F : List (List Int)) : QS := findQ G n size os 152 (initQ G F F.length) 0
theorem rndQ_inv {G : List Int → Bool} {n : Int} {size K b : Nat} {os : List (Int × List Int)} (ha : algB n os = true) (hsz : size ≤ 1048576) {s : QS} (hs : QInv n size s) (hK1 : 1 ≤ K) (hK : K ≤ s.1.1.length) : QInv n size (rndQ G n size os K b s) ∧ K ≤ (rndQ G n size os K b s).1.1.length := by
  obtain ⟨h1, h8, h4, hops⟩ := algB_at ha
  have hfold : ∀ {α : Type} (g : QS → α → QS) (l : List α), (∀ s x, x ∈ l → QInv n size s ∧ K ≤ s.1.1.length → QInv n size (g s x) ∧ K ≤ (g s x).1.1.length) → ∀ s, QInv n size s ∧ K ≤ s.1.1.length → QInv n size (l.foldl g s) ∧ K ≤ (l.foldl g s).1.1.length := by
    intro α g l
    induction l with
    | nil => intro _ s h; exact h
    | cons x l ih => intro hg s h; exact ih (fun s y hy => hg s y (by simp [hy])) _ (hg s x (by simp) h)
  refine hfold _ _ ?_ s ⟨hs, hK⟩
  intro s p hp hs
  have hfm : p.1 ∈ os := by
    obtain ⟨q, hq⟩ := List.mem_iff_getElem?.1 hp
    rw [List.getElem?_zipIdx] at hq
    cases h1 : os[q]? with
    | none => rw [h1] at hq; cases hq
    | some y => rw [h1] at hq; cases hq; exact List.mem_of_getElem? h1
  have hoj := hops _ hfm
  refine hfold _ _ ?_ s hs
  intro s i _ hs
  by_cases h2 : s.2.2 = 2
  · cases hf : fresh K p.1.1.toNat b i with
    | false => rw [stepQ_skip hf]; exact hs
    | true =>
      by_cases ht : s.2.1 = 100000
      · rw [stepQ_many h2 hf ht]
        exact ⟨⟨hs.1.inv, hs.1.few, hs.1.tr, .inr (.inr rfl)⟩, hs.2⟩
      · have hnum : ∀ x ∈ lowd (i : Int) (K : Int) p.1.1.toNat, 0 ≤ x ∧ x.toNat < s.1.1.length := fun x hx => by
          have := low_in (k := p.1.1.toNat) (i := i) hK1 x hx
          have := hs.2
          omega
        have hap := opAp' hs.1.inv h1 h8 hsz hoj (lowd_length _ _ _) hnum
        have htr := hs.1.tr
        have hQ : QInv n size (s.1, s.2.1 + 1, 2) := ⟨hs.1.inv, hs.1.few, by show s.2.1 + 1 ≤ 100000; omega, .inr (.inl rfl)⟩
        rw [stepQ_add h2 hf ht]
        exact ⟨hQ.add (applyT_length _ _ _ _) (applyT_el hap (opB_tab hoj)), Nat.le_trans hs.2 (addQ_more G (s.1, s.2.1 + 1, 2) _ _)⟩
  · rw [stepQ_end h2]; exact hs
set_option maxRecDepth 10000 in
set_option maxHeartbeats 8000000 in
theorem searchRows_c (n : Int) (os : List (Int × List Int)) (size : Nat) (fk : FuncId) (vs : List Value) (J : HP) (G : List Int → Bool) (hE : Enters Try.prog fk) (hgood : GoodOk fk vs J G n size)
    (F : List (List Int)) (ha : algB n os = true) (hF : DInv n size F) (hsz : size ≤ 1024) (hF1 : 1 ≤ F.length) (hF3 : F.length ≤ 3) :
    Spec Try.prog 172 [vagg [vint n, vsl 2 (fun y : Int × (List Int) => [vint y.1, vsl 1 (fun x : Int => [vint x]) y.2]) os], vsl 1 (fun t : List Int => [vsl 1 (fun x : Int => [vint x]) t]) F, vlit (.func (.func fk) #[] vs.toArray)] [J]
      (fun r S' => ∃ (bq bm : Nat) (u1 u2 : Sv), r = vptr bq 0 ∧ S' = [qcells bq n os (.func (.func fk) #[] vs.toArray) u1 u2 bm ((seaQ G n size os F).2.1 : Int) (seaQ G n size os F).2.2, hsl tRow (vsv u1) (seaQ G n size os F).1.1, hsl (tPair tInt (tS tInt)) (vsv u2) (seaQ G n size os F).1.2, hset bm (List.map keyS (seaQ G n size os F).1.1), J]) := by
  obtain ⟨R, hR⟩ : ∃ R, seaQ G n size os F = R := ⟨_, rfl⟩
  rw [hR]
  obtain ⟨h1, h8, h4, hops⟩ := algB_at ha
  have hFr : ∀ t ∈ F, t.length = size ∧ elB n t = true := hF.row
  refine Spec.of_run2 (n := 52) Try.func172 rfl Try.results172 Try.ntmps172 rfl ?_
  repeat' (first | (with_reducible refine RL.done ?_) | (with_reducible refine RL.wanted ?_ ?_; exact rfl) | ((with_reducible show RH _ _ _ ⟨some 3, .box _ _, _, _, _, _⟩ _ _ _ _); (refine RH.boxAgg rfl rfl ?_; rintro _ _ ⟨b3, rfl, rfl⟩)) | ((with_reducible show RH _ _ _ ⟨some 14, .makeMap _ _, _, _, _, _⟩ _ _ _ _); (refine RH.makeSet rfl ?_); rintro _ _ ⟨b14, rfl, rfl⟩) | ((with_reducible show RH _ _ _ ⟨some 16, .box _ _, _, _, _, _⟩ _ _ _ _); (refine RH.boxAgg rfl rfl ?_; rintro _ _ ⟨b16, rfl, rfl⟩)) | ((with_reducible show RH _ _ _ _ _ _ _ _); refine RH.val (hK := ?_)) | (with_reducible first | refine Run.seq ?_ | refine Run.region ?_ | refine Run.block ?_) | (with_reducible refine seqN (K := Run _ _ _ _) ?_))
  refine Run.sent (T := [qcells b16 n os (.func (.func fk) #[] vs.toArray) (none, 0, 0) (none, 0, 0) b14 0 2, hsl tRow (vsv (none, 0, 0)) [], hsl (tPair tInt (tS tInt)) (vsv (none, 0, 0)) [], hset b14 [], J]) (((SEnt.nil tRow _).trans (SEnt.nil (tPair tInt (tS tInt)) _)).trans (SEnt.ch (.cons (.tail (.tail .head)) rfl (.cons (.tail .head) rfl chA)))) ?_
  refine Run.loop (α := Nat × Sv × Sv × CS × Nat) (fun x => [(7, vptr b16 0), (17, vsl 1 (fun t : List Int => [vsl 1 (fun x : Int => [vint x]) t]) F), (18, vint (F.length : Int)), (19, vint (x.1 : Int))])
    (fun x => [qcells b16 n os (.func (.func fk) #[] vs.toArray) x.2.1 x.2.2.1 b14 (x.2.2.2.2 : Int) 2, hsl tRow (vsv x.2.1) x.2.2.2.1.1, hsl (tPair tInt (tS tInt)) (vsv x.2.2.1) x.2.2.2.1.2, hset b14 (List.map keyS x.2.2.2.1.1), J])
    (fun x => x.1 ≤ F.length ∧ initQ G F x.1 = (x.2.2.2.1, x.2.2.2.2, 2)) (fun x => F.length - x.1) (0, (none, 0, 0), (none, 0, 0), ([], []), 0) ⟨Nat.zero_le _, rfl⟩ (Ent.of slA .refl) ?_
  rintro ⟨p, w1, w2, c, tr⟩ ⟨hp, hI⟩
  dsimp only at hp hI ⊢
  have hQ : QInv n size (c, tr, 2) := by
    have := initQ_inv hFr G p hp
    rw [hI] at this; exact this
  rcases Nat.lt_or_eq_of_le hp with hp9 | hp9
  · obtain ⟨hml, hme⟩ := hFr _ (List.getElem_mem hp9)
    have hadd := qadd_c b16 b14 w1 w2 n os size fk vs J G hE hgood c tr F[p] (-1) [(p : Int)] hQ h8 hsz hml hme (by simp)
    have hstep : initQ G F (p + 1) = addQ G (c, tr, 2) F[p] (-1, [(p : Int)]) := by
      rw [initQ, hI, List.getD_eq_getElem?_getD, List.getElem?_eq_getElem hp9]; rfl
    obtain ⟨S3, hS3⟩ : ∃ S, addQ G (c, tr, 2) F[p] (-1, [(p : Int)]) = S := ⟨_, rfl⟩
    rw [hS3] at hadd hstep
    obtain ⟨c3, tr3, st3⟩ := S3
    repeat' (first | (with_reducible refine RL.done ?_) | (with_reducible refine RL.wanted ?_ ?_; exact rfl) | ((with_reducible show RH _ _ _ ⟨some 27, .buildSlice _ _ _, _, _, _, _⟩ _ _ _ _); refine RH.eff rfl rfl (EOpS.e (EOpS.slit (fun x : Int => [vint x]) _ (fun _ _ => rfl) (by repeat (first | exact Elts.nil | (apply Elts.cons; exact rfl; exact CellsOf.one))) rfl rfl)) ?_; rintro _ _ ⟨b27, rfl, rfl⟩; refine RL.frzA rfl ?_) | ((with_reducible show RH _ _ _ ⟨_, .call ⟨.value (.func 191), _, _⟩, _, _, _, _⟩ _ _ _ _); refine RH.cW Try.call191 ?_; refine ⟨_, _, _, (by repeat (first | exact Pick.nil | (apply Pick.cons; (with_reducible repeat (first | exact Rem.head | apply Rem.tail))))), hadd, ?_⟩; rintro _ _ ⟨u1, u2, rfl, rfl⟩; refine RL.nm ?_) | ((with_reducible show RH _ _ _ _ _ _ _ _); refine RH.val (hK := ?_)) | (with_reducible first | refine Run.seq ?_ | refine Run.region ?_ | refine Run.block ?_ | refine Run.skip ?_ | refine Run.exit ?_ | refine Run.ret ?_) | (with_reducible show Run _ _ (.cond _ _ _) _ _ _; first | refine Run.condD rfl (fun h => ?_) (fun h => ?_) | refine Run.condND rfl (fun h => ?_) (fun h => ?_)) | (with_reducible first | refine seqN (K := Run _ _ _ _) ?_ | refine seqE ?_ | refine seqR ?_ | refine blockN ?_ | refine blockR ?_ | refine blockE ?_))
    all_goals first
      | (exfalso; omega)
      | (obtain rfl : st3 = 2 := by assumption
         with_reducible refine seqN ?_
         exact ⟨(p + 1, u1, u2, c3, tr3), ⟨by dsimp only; omega, hstep⟩, by dsimp only; omega, Ent.of (by dsimp only; exact slA) (by dsimp only; exact chA)⟩)
      | (have hn2 : ¬ st3 = 2 := by assumption
         have hRe : R = (c3, tr3, st3) := by
           have h9 := initQ_end (G := G) (F := F) (p := p + 1) (by rw [hstep]; exact hn2) (F.length - (p + 1))
           rw [show p + 1 + (F.length - (p + 1)) = F.length by omega] at h9
           rw [← hR, seaQ, h9, hstep]
           exact findQ_end (fun h => hn2 h.1)
         subst hRe
         refine ⟨eA, _, [qcells b16 n os (.func (.func fk) #[] vs.toArray) u1 u2 b14 (tr3 : Int) st3, hsl tRow (vsv u1) c3.1, hsl (tPair tInt (tS tInt)) (vsv u2) c3.2, hset b14 (List.map keyS c3.1), J], resA, ?_, ?_⟩
         · exact SEnt.ch chA
         · exact ⟨b16, b14, u1, u2, rfl, rfl⟩)
      | trace_state
  · subst hp9
    have hR2 : findQ G n size os 152 (c, tr, 2) 0 = R := by rw [← hR, seaQ, hI]
    have hc1 : 1 ≤ c.1.length := by
      obtain ⟨q, hq⟩ : ∃ q, F.length = q + 1 := ⟨F.length - 1, by omega⟩
      have := initQ_pos (G := G) (F := F) q
      rw [← hq, hI] at this; exact this
    repeat' (first | (with_reducible refine RL.done ?_) | (with_reducible refine RL.wanted ?_ ?_; exact rfl) | ((with_reducible show RH _ _ _ ⟨some 27, .buildSlice _ _ _, _, _, _, _⟩ _ _ _ _); refine RH.eff rfl rfl (EOpS.e (EOpS.slit (fun x : Int => [vint x]) _ (fun _ _ => rfl) (by repeat (first | exact Elts.nil | (apply Elts.cons; exact rfl; exact CellsOf.one))) rfl rfl)) ?_; rintro _ _ ⟨b27, rfl, rfl⟩) | ((with_reducible show RH _ _ _ _ _ _ _ _); refine RH.val (hK := ?_)) | (with_reducible first | refine Run.seq ?_ | refine Run.region ?_ | refine Run.block ?_ | refine Run.skip ?_ | refine Run.exit ?_) | (with_reducible show Run _ _ (.cond _ _ _) _ _ _; refine Run.condD rfl (fun h => ?_) (fun h => ?_)) | (with_reducible first | refine seqN (K := Run _ _ _ _) ?_ | refine seqE ?_ | refine blockE ?_))
    all_goals first
      | (exfalso; omega)
      | skip
    refine Run.loop (α := Nat × Sv × Sv × CS × Nat × Nat) (fun x => [(7, vptr b16 0), (10, vint (x.1 : Int))])
      (fun x => [qcells b16 n os (.func (.func fk) #[] vs.toArray) x.2.1 x.2.2.1 b14 (x.2.2.2.2.1 : Int) 2, hsl tRow (vsv x.2.1) x.2.2.2.1.1, hsl (tPair tInt (tS tInt)) (vsv x.2.2.1) x.2.2.2.1.2, hset b14 (List.map keyS x.2.2.2.1.1), J])
      (fun x => findQ G n size os x.2.2.2.2.2 (x.2.2.2.1, x.2.2.2.2.1, 2) x.1 = R ∧ QInv n size (x.2.2.2.1, x.2.2.2.2.1, 2) ∧ 1 ≤ x.2.2.2.1.1.length ∧ 151 - x.1 ≤ x.2.2.2.2.2) (fun x => x.2.2.2.2.2) (0, w1, w2, c, tr, 152) ⟨hR2, hQ, hc1, by dsimp only; omega⟩ (Ent.of slA chA) ?_
    rintro ⟨b, v1, v2, c2, tr2, f⟩ ⟨hrun, hQ2, hc2, hf⟩
    dsimp only at hrun hQ2 hc2 hf ⊢
    have hfew2 : c2.1.length ≤ 150 := hQ2.few
    by_cases hlt : b < c2.1.length
    · obtain ⟨f, rfl⟩ : ∃ g, f = g + 1 := ⟨f - 1, by omega⟩
      rw [findQ_go rfl hlt] at hrun
      have hrnd := round_c b16 b14 v1 v2 n os size fk vs J G hE hgood c2 tr2 b c2.1.length ha hQ2 hsz hc2 (Nat.le_refl _)
      obtain ⟨hi3, hmore⟩ := rndQ_inv (G := G) (b := b) ha (by omega) hQ2 hc2 (Nat.le_refl _)
      obtain ⟨S3, hS3⟩ : ∃ S, rndQ G n size os c2.1.length b (c2, tr2, 2) = S := ⟨_, rfl⟩
      have hrun : findQ G n size os f S3 c2.1.length = R := by rw [← hS3]; exact hrun
      (try dsimp only at hi3 hmore)
      rw [hS3] at hrnd hi3 hmore
      obtain ⟨c3, tr3, st3⟩ := S3
      dsimp only at hmore
      repeat' (first | (with_reducible refine RL.done ?_) | (with_reducible refine RL.wanted ?_ ?_; exact rfl) | ((with_reducible show RH _ _ _ ⟨_, .call ⟨.value (.func 192), _, _⟩, _, _, _, _⟩ _ _ _ _); refine RH.cW Try.call192 ?_; refine ⟨_, _, _, (by repeat (first | exact Pick.nil | (apply Pick.cons; (with_reducible repeat (first | exact Rem.head | apply Rem.tail))))), hrnd, ?_⟩; rintro _ _ ⟨u1, u2, rfl, rfl⟩; refine RL.nm ?_) | ((with_reducible show RH _ _ _ _ _ _ _ _); refine RH.val (hK := ?_)) | (with_reducible first | refine Run.seq ?_ | refine Run.region ?_ | refine Run.block ?_ | refine Run.skip ?_ | refine Run.exit ?_ | refine Run.ret ?_) | (with_reducible show Run _ _ (.cond _ _ _) _ _ _; first | refine Run.condD rfl (fun h => ?_) (fun h => ?_) | refine Run.condND rfl (fun h => ?_) (fun h => ?_)) | (with_reducible first | refine seqN (K := Run _ _ _ _) ?_ | refine seqE ?_ | refine seqR ?_ | refine blockN ?_ | refine blockR ?_ | refine blockE ?_))
      all_goals first
        | (exfalso; omega)
        | (obtain rfl : st3 = 2 := by assumption
           with_reducible refine seqN ?_
           exact ⟨(c2.1.length, u1, u2, c3, tr3, f), ⟨hrun, hi3, by dsimp only; omega, by dsimp only; omega⟩, by dsimp only; omega, Ent.of (by dsimp only; exact slA) (by dsimp only; exact chA)⟩)
        | (have hn2 : ¬ st3 = 2 := by assumption
           have hRe : R = (c3, tr3, st3) := by rw [← hrun]; exact findQ_end (fun h => hn2 h.1)
           subst hRe
           refine ⟨eA, _, [qcells b16 n os (.func (.func fk) #[] vs.toArray) u1 u2 b14 (tr3 : Int) st3, hsl tRow (vsv u1) c3.1, hsl (tPair tInt (tS tInt)) (vsv u2) c3.2, hset b14 (List.map keyS c3.1), J], resA, ?_, ?_⟩
           · exact SEnt.ch chA
           · exact ⟨b16, b14, u1, u2, rfl, rfl⟩)
        | trace_state
    · have hRe : R = (c2, tr2, 2) := by rw [← hrun]; exact findQ_end (fun h => hlt h.2)
      subst hRe
      repeat' (first | (with_reducible refine RL.done ?_) | (with_reducible refine RL.wanted ?_ ?_; exact rfl) | ((with_reducible show RH _ _ _ _ _ _ _ _); refine RH.val (hK := ?_)) | (with_reducible first | refine Run.seq ?_ | refine Run.region ?_ | refine Run.block ?_ | refine Run.skip ?_ | refine Run.exit ?_ | refine Run.ret ?_) | (with_reducible show Run _ _ (.cond _ _ _) _ _ _; refine Run.condD rfl (fun h => ?_) (fun h => ?_)) | (with_reducible first | refine seqN (K := Run _ _ _ _) ?_ | refine seqE ?_ | refine blockE ?_))
      all_goals first
        | (exfalso; omega)
        | (refine ⟨eA, _, [qcells b16 n os (.func (.func fk) #[] vs.toArray) v1 v2 b14 (tr2 : Int) 2, hsl tRow (vsv v1) c2.1, hsl (tPair tInt (tS tInt)) (vsv v2) c2.2, hset b14 (List.map keyS c2.1), J], resA, ?_, ?_⟩
           · exact SEnt.ch chA
           · exact ⟨b16, b14, v1, v2, rfl, rfl⟩)
        | trace_state
end Go.Proofs.Ytiifdhdhjioefaa
