/- The search for a row that is good, the reference: spec.l15Add. Proved for this program; conditions: rows of at most 192 places, at most 150 rows. -/
import Derived.Test.YtiifdhdhjioefaaFindU
import Derived.Test.YtiifdhdhjioefaaCloneS
import Derived.Test.YtiifdhdhjioefaaDerivOf
namespace Go.Proofs.Ytiifdhdhjioefaa
open Go Go.Proofs
set_option linter.unusedVariables false
/-- the reference's place, tries and mark tell the state -/
def SpQ (s : QS) (pl tries : Int) (o : Bool) : Prop := (0 ≤ pl ↔ s.2.2 = 1) ∧ (o = true ↔ s.2.2 = 3) ∧ (s.2.2 ≠ 3 → tries = (s.2.1 : Int))
abbrev QSp (s : QS) (r : VP) (S' : List HP) : Prop := ∃ (u1 u2 : Sv) (pl tries : Int) (o : Bool), r = vagg [vlit (vsv u1), vlit (vsv u2), vint pl, vint tries, vbool o] ∧ S' = [hsl tRow (vsv u1) s.1.1, hsl (tPair tInt (tS tInt)) (vsv u2) s.1.2] ∧ SpQ s pl tries o
theorem SpQ.open {c : CS} {tr : Nat} {pl tries : Int} (h : ¬ 0 ≤ pl) : SpQ (c, tr, 3) pl tries true := ⟨⟨fun h2 => absurd h2 h, fun h2 => absurd h2 (by show ¬ (3 : Int) = 1; decide)⟩, ⟨fun _ => rfl, fun _ => rfl⟩, fun h2 => absurd rfl h2⟩
theorem SpQ.found {c : CS} {tr : Nat} {pl tries : Int} (h : 0 ≤ pl) (ht : tries = (tr : Int)) : SpQ (c, tr, 1) pl tries false := ⟨⟨fun _ => rfl, fun _ => h⟩, ⟨fun h2 => (by cases h2), fun h2 => absurd h2 (by show ¬ (1 : Int) = 3; decide)⟩, fun _ => ht⟩
theorem SpQ.on {c : CS} {tr : Nat} {pl tries : Int} (h : ¬ 0 ≤ pl) (ht : tries = (tr : Int)) : SpQ (c, tr, 2) pl tries false := ⟨⟨fun h2 => absurd h2 h, fun h2 => absurd h2 (by show ¬ (2 : Int) = 1; decide)⟩, ⟨fun h2 => (by cases h2), fun h2 => absurd h2 (by show ¬ (2 : Int) = 3; decide)⟩, fun _ => ht⟩
set_option maxRecDepth 10000 in
set_option maxHeartbeats 4000000 in
theorem l15Add_c (N k0 : Nat) (rs : List (List Int × List Int)) (hn1 : 1 ≤ N) (hn4 : N ≤ 4) (hc : condB (k0 : Int) rs = true) (s1 s2 s3 : Sv) (c : CS) (tr : Nat) (st pl tries : Int) (o : Bool) (hsp : SpQ (c, tr, st) pl tries o) (hs : QInv (N : Int) (rowS N rs) (c, tr, st)) (t : List Int) (op : Int) (ns : List Int) (ht : t.length = rowS N rs) :
    Spec Try.prog 166 [vagg [vlit (vsv s1), vlit (vsv s2), vint pl, vint tries, vbool o], vint (N : Int), vagg [vint (k0 : Int), vsl 2 (fun y : (List Int) × (List Int) => [vsl 1 (fun x : Int => [vint x]) y.1, vsl 1 (fun x : Int => [vint x]) y.2]) rs], vsl 1 (fun t : List Int => [vsl 1 (fun x : Int => [vint x]) t]) (pats rs), vsl 1 (fun x : Int => [vint x]) t, vagg [vint op, vlit (vsv s3)]] [hsl tRow (vsv s1) c.1, hsl (tPair tInt (tS tInt)) (vsv s2) c.2, hsl tInt (vsv s3) ns]
      (QSp (addQ (goodR N rs) (c, tr, st) t (op, ns))) := by
  have hN : N = 1 ∨ N = 2 ∨ N = 3 ∨ N = 4 := by omega
  have hob := l15Obeys_c N hN t (k0 : Int) rs hc (pats rs) rfl ht
  have hsz := rowS_le hn4 hc
  have hfew := hs.few
  have hstp := hs.inv.stp
  have hrow : ∀ u ∈ c.1, u.length ≤ 4611686018427387904 := fun u hu => by have := (hs.inv.row u hu).1; omega
  obtain ⟨q1, q2, q3⟩ := hsp
  (try dsimp only at q1 q2 q3 hfew hstp)
  refine Spec.of_run2 (n := 57) Try.func166 rfl Try.results166 Try.ntmps166 rfl ?_
  by_cases h2 : st = 2
  · have hpl : ¬ 0 ≤ pl := fun h => by have := q1.1 h; omega
    have ho : o = false := by
      cases o with
      | false => rfl
      | true => have := q2.1 rfl; omega
    subst ho
    subst h2
    have htr : tries = (tr : Int) := q3 (by decide)
    by_cases hin : t ∈ c.1
    · have hp : ¬ placeAt c.1 t < 0 := fun h => placeAt_lt.1 h hin
      rw [addQ_old hin]
      repeat' (first | (with_reducible refine RL.done ?_) | (with_reducible refine RL.wanted ?_ ?_; exact rfl) | ((with_reducible show RH _ _ _ ⟨some 6, .box _ _, _, _, _, _⟩ _ _ _ _); (refine RH.boxAgg rfl rfl ?_; rintro _ _ ⟨b6, rfl, rfl⟩)) | ((with_reducible show RH _ _ _ ⟨some 8, .box _ _, _, _, _, _⟩ _ _ _ _); (refine RH.boxAgg rfl rfl ?_; rintro _ _ ⟨b8, rfl, rfl⟩)) | ((with_reducible show RH _ _ _ ⟨some 11, .box _ _, _, _, _, _⟩ _ _ _ _); (refine RH.boxAgg rfl rfl ?_; rintro _ _ ⟨b11, rfl, rfl⟩)) | ((with_reducible show RH _ _ _ ⟨some 12, .alloc _, _, _, _, _⟩ _ _ _ _); refine RH.alloc rfl ?_; rintro _ _ ⟨b12, rfl, rfl⟩) | ((with_reducible show RH _ _ _ ⟨some 37, .buildSlice _ _ _, _, _, _, _⟩ _ _ _ _); (refine RH.eff rfl rfl (EOpS.e (EOpS.slit (fun t : List Int => [vsl 1 (fun x : Int => [vint x]) t]) _ (fun _ _ => rfl) (by ((repeat (first | exact Elts.nil | (apply Elts.cons; exact rfl; exact CellsOf.one))); done)) rfl rfl)) ?_; rintro _ _ ⟨b37, rfl, rfl⟩)) | ((with_reducible show RH _ _ _ ⟨_, .call ⟨.value (.func 184), _, _⟩, _, _, _, _⟩ _ _ _ _); refine RH.cL Try.call184 ?_; apply Exists.intro; apply And.intro; (focus ((repeat (first | exact LVs.nil | (apply LVs.sl; (with_reducible repeat (first | exact Has.head | apply Has.tail)); exact inferInstance; exact rfl) | apply LVs.refl)); done)); refine ⟨_, l12Place_c c.1 t (by omega) hrow, (by intro r H h; first | (obtain ⟨rfl, rfl⟩ := h; exact ⟨inferInstance, inferInstance⟩) | (obtain ⟨_, rfl, rfl⟩ := h; exact ⟨inferInstance, inferInstance⟩) | (obtain ⟨_, _, rfl, rfl⟩ := h; exact ⟨inferInstance, inferInstance⟩) | (obtain ⟨_, _, rfl, rfl, _⟩ := h; exact ⟨inferInstance, inferInstance⟩)), ?_⟩; rintro _ _ ⟨rfl, rfl⟩; refine RL.nm ?_) | ((with_reducible show RH _ _ _ _ _ _ _ _); first | refine RH.val (hK := ?_) | refine RH.upd (hK := ?_)) | (with_reducible show RL _ _ _ (_ :: _) _ _ _; first | refine RL.guardYes rfl rfl rfl rfl ?_ | refine RL.guardNoS rfl rfl rfl rfl rfl rfl ?_ | refine RL.splitD rfl rfl rfl (fun h => ?_) (fun h => ?_)) | (with_reducible first | refine Run.seq ?_ | refine Run.region ?_ | refine Run.skip ?_ | refine Run.ret ?_) | (with_reducible show Run _ _ (.cond _ _ _) _ _ _; first | refine Run.condT rfl ?_ | refine Run.condD rfl (fun h => ?_) (fun h => ?_)) | (with_reducible first | refine seqN (K := Run _ _ _ _) ?_ | refine seqR ?_))
      all_goals first
        | (exfalso; omega)
        | (refine ⟨eA, _, [hsl tRow (vsv s1) c.1, hsl (tPair tInt (tS tInt)) (vsv s2) c.2], resA, ?_, ?_⟩
           · exact SEnt.ch chA
           · exact ⟨s1, s2, pl, tries, false, rfl, rfl, q1, q2, q3⟩)
        | trace_state
    · have hp : placeAt c.1 t < 0 := placeAt_lt.2 hin
      by_cases hfull : c.1.length = 150
      · rw [addQ_full rfl hin hfull]
        repeat' (first | (with_reducible refine RL.done ?_) | (with_reducible refine RL.wanted ?_ ?_; exact rfl) | ((with_reducible show RH _ _ _ ⟨some 6, .box _ _, _, _, _, _⟩ _ _ _ _); (refine RH.boxAgg rfl rfl ?_; rintro _ _ ⟨b6, rfl, rfl⟩)) | ((with_reducible show RH _ _ _ ⟨some 8, .box _ _, _, _, _, _⟩ _ _ _ _); (refine RH.boxAgg rfl rfl ?_; rintro _ _ ⟨b8, rfl, rfl⟩)) | ((with_reducible show RH _ _ _ ⟨some 11, .box _ _, _, _, _, _⟩ _ _ _ _); (refine RH.boxAgg rfl rfl ?_; rintro _ _ ⟨b11, rfl, rfl⟩)) | ((with_reducible show RH _ _ _ ⟨some 12, .alloc _, _, _, _, _⟩ _ _ _ _); refine RH.alloc rfl ?_; rintro _ _ ⟨b12, rfl, rfl⟩) | ((with_reducible show RH _ _ _ ⟨some 37, .buildSlice _ _ _, _, _, _, _⟩ _ _ _ _); (refine RH.eff rfl rfl (EOpS.e (EOpS.slit (fun t : List Int => [vsl 1 (fun x : Int => [vint x]) t]) _ (fun _ _ => rfl) (by ((repeat (first | exact Elts.nil | (apply Elts.cons; exact rfl; exact CellsOf.one))); done)) rfl rfl)) ?_; rintro _ _ ⟨b37, rfl, rfl⟩)) | ((with_reducible show RH _ _ _ ⟨_, .call ⟨.value (.func 184), _, _⟩, _, _, _, _⟩ _ _ _ _); refine RH.cL Try.call184 ?_; apply Exists.intro; apply And.intro; (focus ((repeat (first | exact LVs.nil | (apply LVs.sl; (with_reducible repeat (first | exact Has.head | apply Has.tail)); exact inferInstance; exact rfl) | apply LVs.refl)); done)); refine ⟨_, l12Place_c c.1 t (by omega) hrow, (by intro r H h; first | (obtain ⟨rfl, rfl⟩ := h; exact ⟨inferInstance, inferInstance⟩) | (obtain ⟨_, rfl, rfl⟩ := h; exact ⟨inferInstance, inferInstance⟩) | (obtain ⟨_, _, rfl, rfl⟩ := h; exact ⟨inferInstance, inferInstance⟩) | (obtain ⟨_, _, rfl, rfl, _⟩ := h; exact ⟨inferInstance, inferInstance⟩)), ?_⟩; rintro _ _ ⟨rfl, rfl⟩; refine RL.nm ?_) | ((with_reducible show RH _ _ _ _ _ _ _ _); first | refine RH.val (hK := ?_) | refine RH.upd (hK := ?_)) | (with_reducible show RL _ _ _ (_ :: _) _ _ _; first | refine RL.guardYes rfl rfl rfl rfl ?_ | refine RL.guardNoS rfl rfl rfl rfl rfl rfl ?_ | refine RL.splitD rfl rfl rfl (fun h => ?_) (fun h => ?_)) | (with_reducible first | refine Run.seq ?_ | refine Run.region ?_ | refine Run.skip ?_ | refine Run.ret ?_) | (with_reducible show Run _ _ (.cond _ _ _) _ _ _; first | refine Run.condT rfl ?_ | refine Run.condD rfl (fun h => ?_) (fun h => ?_)) | (with_reducible first | refine seqN (K := Run _ _ _ _) ?_ | refine seqR ?_))
        all_goals first
          | (exfalso; omega)
          | (refine ⟨eA, _, [hsl tRow (vsv s1) c.1, hsl (tPair tInt (tS tInt)) (vsv s2) c.2], resA, ?_, ?_⟩
             · exact SEnt.ch chA
             · exact ⟨s1, s2, pl, tries, true, rfl, rfl, SpQ.open hpl⟩)
          | trace_state
      · rw [addQ_new rfl hin hfull]
        have hL2 : (c.1 ++ [t]).length = c.1.length + 1 := by simp
        cases hG : goodR N rs t with
        | true =>
          have hob : Spec Try.prog 187 [vint (N : Int), vsl 1 (fun x : Int => [vint x]) t, vagg [vint (k0 : Int), vsl 2 (fun y : (List Int) × (List Int) => [vsl 1 (fun x : Int => [vint x]) y.1, vsl 1 (fun x : Int => [vint x]) y.2]) rs], vsl 1 (fun t : List Int => [vsl 1 (fun x : Int => [vint x]) t]) (pats rs)] [] (fun r S' => r = vbool true ∧ S' = []) := by rw [← hG]; exact hob
          repeat' (first | (with_reducible first | refine RL.done ?_ | refine RL.app0 ?_) | (with_reducible refine RL.wanted ?_ ?_; exact rfl) | ((with_reducible show RH _ _ _ ⟨some 6, .box _ _, _, _, _, _⟩ _ _ _ _); (refine RH.boxAgg rfl rfl ?_; rintro _ _ ⟨b6, rfl, rfl⟩)) | ((with_reducible show RH _ _ _ ⟨some 8, .box _ _, _, _, _, _⟩ _ _ _ _); (refine RH.boxAgg rfl rfl ?_; rintro _ _ ⟨b8, rfl, rfl⟩)) | ((with_reducible show RH _ _ _ ⟨some 11, .box _ _, _, _, _, _⟩ _ _ _ _); (refine RH.boxAgg rfl rfl ?_; rintro _ _ ⟨b11, rfl, rfl⟩)) | ((with_reducible show RH _ _ _ ⟨some 12, .alloc _, _, _, _, _⟩ _ _ _ _); refine RH.alloc rfl ?_; rintro _ _ ⟨b12, rfl, rfl⟩) | ((with_reducible show RH _ _ _ ⟨some 37, .buildSlice _ _ _, _, _, _, _⟩ _ _ _ _); (refine RH.eff rfl rfl (EOpS.e (EOpS.slit (fun t : List Int => [vsl 1 (fun x : Int => [vint x]) t]) _ (fun _ _ => rfl) (by ((repeat (first | exact Elts.nil | (apply Elts.cons; exact rfl; exact CellsOf.one))); done)) rfl rfl)) ?_; rintro _ _ ⟨b37, rfl, rfl⟩)) | ((with_reducible show RH _ _ _ ⟨some 43, .buildSlice _ _ _, _, _, _, _⟩ _ _ _ _); refine RH.eff rfl rfl (EOpS.e (EOpS.slitV (by repeat (first | exact Elts.nil | apply Elts.one1 rfl | apply Elts.agg2 rfl)) (by simp) rfl rfl)) ?_; rintro _ _ ⟨b43, rfl, rfl⟩) | ((with_reducible show RH _ _ _ ⟨_, .call ⟨.value (.func 184), _, _⟩, _, _, _, _⟩ _ _ _ _); refine RH.cL Try.call184 ?_; apply Exists.intro; apply And.intro; (focus ((repeat (first | exact LVs.nil | (apply LVs.sl; (with_reducible repeat (first | exact Has.head | apply Has.tail)); exact inferInstance; exact rfl) | apply LVs.refl)); done)); refine ⟨_, l12Place_c c.1 t (by omega) hrow, (by intro r H h; first | (obtain ⟨rfl, rfl⟩ := h; exact ⟨inferInstance, inferInstance⟩) | (obtain ⟨_, rfl, rfl⟩ := h; exact ⟨inferInstance, inferInstance⟩) | (obtain ⟨_, _, rfl, rfl⟩ := h; exact ⟨inferInstance, inferInstance⟩) | (obtain ⟨_, _, rfl, rfl, _⟩ := h; exact ⟨inferInstance, inferInstance⟩)), ?_⟩; rintro _ _ ⟨rfl, rfl⟩; refine RL.nm ?_) | ((with_reducible show RH _ _ _ ⟨some 38, .call ⟨.builtin .append, _, _⟩, _, _, _, _⟩ _ _ _ _); (refine RH.appF rfl rfl rfl (by repeat (first | exact Pick.nil | (apply Pick.cons; (with_reducible repeat (first | exact Rem.head | apply Rem.tail))))) (by first | omega | (simp; omega)) (by first | omega | (simp; omega)) ?_); rintro _ _ ⟨s38, rfl, rfl⟩) | ((with_reducible show RH _ _ _ ⟨some 44, .call ⟨.builtin .append, _, _⟩, _, _, _, _⟩ _ _ _ _); (refine RH.appPI rfl rfl rfl (by repeat (first | exact Pick.nil | (apply Pick.cons; (with_reducible repeat (first | exact Rem.head | apply Rem.tail))))) (by first | omega | (simp; omega)) (by first | omega | (simp; omega)) ?_); rintro _ _ ⟨s44, rfl, rfl⟩) | ((with_reducible show RH _ _ _ ⟨_, .call ⟨.value (.func 187), _, _⟩, _, _, _, _⟩ _ _ _ _); refine RH.cP Try.call187 ?_; refine ⟨_, hob, ?_⟩; rintro _ _ ⟨rfl, rfl⟩) | ((with_reducible show RH _ _ _ _ _ _ _ _); first | refine RH.val (hK := ?_) | refine RH.upd (hK := ?_)) | (with_reducible show RL _ _ _ (_ :: _) _ _ _; first | refine RL.guardYes rfl rfl rfl rfl ?_ | refine RL.guardNoS rfl rfl rfl rfl rfl rfl ?_ | refine RL.splitD rfl rfl rfl (fun h => ?_) (fun h => ?_)) | (with_reducible first | refine Run.seq ?_ | refine Run.region ?_ | refine Run.skip ?_ | refine Run.ret ?_) | (with_reducible show Run _ _ (.cond _ _ _) _ _ _; first | refine Run.condT rfl ?_ | refine Run.condD rfl (fun h => ?_) (fun h => ?_)) | (with_reducible first | refine seqN (K := Run _ _ _ _) ?_ | refine seqR ?_))
          all_goals first
            | (exfalso; omega)
            | (refine ⟨eA, _, [hsl tRow (vsv s38) (c.1 ++ [t]), hsl (tPair tInt (tS tInt)) (vsv s44) (c.2 ++ [(op, ns)])], resA, ?_, ?_⟩
               · exact SEnt.ch chA
               · exact ⟨s38, s44, ((c.1 ++ [t]).length : Int) - 1, tries, false, rfl, rfl, SpQ.found (by omega) htr⟩)
            | trace_state
        | false =>
          have hob : Spec Try.prog 187 [vint (N : Int), vsl 1 (fun x : Int => [vint x]) t, vagg [vint (k0 : Int), vsl 2 (fun y : (List Int) × (List Int) => [vsl 1 (fun x : Int => [vint x]) y.1, vsl 1 (fun x : Int => [vint x]) y.2]) rs], vsl 1 (fun t : List Int => [vsl 1 (fun x : Int => [vint x]) t]) (pats rs)] [] (fun r S' => r = vbool false ∧ S' = []) := by rw [← hG]; exact hob
          repeat' (first | (with_reducible first | refine RL.done ?_ | refine RL.app0 ?_) | (with_reducible refine RL.wanted ?_ ?_; exact rfl) | ((with_reducible show RH _ _ _ ⟨some 6, .box _ _, _, _, _, _⟩ _ _ _ _); (refine RH.boxAgg rfl rfl ?_; rintro _ _ ⟨b6, rfl, rfl⟩)) | ((with_reducible show RH _ _ _ ⟨some 8, .box _ _, _, _, _, _⟩ _ _ _ _); (refine RH.boxAgg rfl rfl ?_; rintro _ _ ⟨b8, rfl, rfl⟩)) | ((with_reducible show RH _ _ _ ⟨some 11, .box _ _, _, _, _, _⟩ _ _ _ _); (refine RH.boxAgg rfl rfl ?_; rintro _ _ ⟨b11, rfl, rfl⟩)) | ((with_reducible show RH _ _ _ ⟨some 12, .alloc _, _, _, _, _⟩ _ _ _ _); refine RH.alloc rfl ?_; rintro _ _ ⟨b12, rfl, rfl⟩) | ((with_reducible show RH _ _ _ ⟨some 37, .buildSlice _ _ _, _, _, _, _⟩ _ _ _ _); (refine RH.eff rfl rfl (EOpS.e (EOpS.slit (fun t : List Int => [vsl 1 (fun x : Int => [vint x]) t]) _ (fun _ _ => rfl) (by ((repeat (first | exact Elts.nil | (apply Elts.cons; exact rfl; exact CellsOf.one))); done)) rfl rfl)) ?_; rintro _ _ ⟨b37, rfl, rfl⟩)) | ((with_reducible show RH _ _ _ ⟨some 43, .buildSlice _ _ _, _, _, _, _⟩ _ _ _ _); refine RH.eff rfl rfl (EOpS.e (EOpS.slitV (by repeat (first | exact Elts.nil | apply Elts.one1 rfl | apply Elts.agg2 rfl)) (by simp) rfl rfl)) ?_; rintro _ _ ⟨b43, rfl, rfl⟩) | ((with_reducible show RH _ _ _ ⟨_, .call ⟨.value (.func 184), _, _⟩, _, _, _, _⟩ _ _ _ _); refine RH.cL Try.call184 ?_; apply Exists.intro; apply And.intro; (focus ((repeat (first | exact LVs.nil | (apply LVs.sl; (with_reducible repeat (first | exact Has.head | apply Has.tail)); exact inferInstance; exact rfl) | apply LVs.refl)); done)); refine ⟨_, l12Place_c c.1 t (by omega) hrow, (by intro r H h; first | (obtain ⟨rfl, rfl⟩ := h; exact ⟨inferInstance, inferInstance⟩) | (obtain ⟨_, rfl, rfl⟩ := h; exact ⟨inferInstance, inferInstance⟩) | (obtain ⟨_, _, rfl, rfl⟩ := h; exact ⟨inferInstance, inferInstance⟩) | (obtain ⟨_, _, rfl, rfl, _⟩ := h; exact ⟨inferInstance, inferInstance⟩)), ?_⟩; rintro _ _ ⟨rfl, rfl⟩; refine RL.nm ?_) | ((with_reducible show RH _ _ _ ⟨some 38, .call ⟨.builtin .append, _, _⟩, _, _, _, _⟩ _ _ _ _); (refine RH.appF rfl rfl rfl (by repeat (first | exact Pick.nil | (apply Pick.cons; (with_reducible repeat (first | exact Rem.head | apply Rem.tail))))) (by first | omega | (simp; omega)) (by first | omega | (simp; omega)) ?_); rintro _ _ ⟨s38, rfl, rfl⟩) | ((with_reducible show RH _ _ _ ⟨some 44, .call ⟨.builtin .append, _, _⟩, _, _, _, _⟩ _ _ _ _); (refine RH.appPI rfl rfl rfl (by repeat (first | exact Pick.nil | (apply Pick.cons; (with_reducible repeat (first | exact Rem.head | apply Rem.tail))))) (by first | omega | (simp; omega)) (by first | omega | (simp; omega)) ?_); rintro _ _ ⟨s44, rfl, rfl⟩) | ((with_reducible show RH _ _ _ ⟨_, .call ⟨.value (.func 187), _, _⟩, _, _, _, _⟩ _ _ _ _); refine RH.cP Try.call187 ?_; refine ⟨_, hob, ?_⟩; rintro _ _ ⟨rfl, rfl⟩) | ((with_reducible show RH _ _ _ _ _ _ _ _); first | refine RH.val (hK := ?_) | refine RH.upd (hK := ?_)) | (with_reducible show RL _ _ _ (_ :: _) _ _ _; first | refine RL.guardYes rfl rfl rfl rfl ?_ | refine RL.guardNoS rfl rfl rfl rfl rfl rfl ?_ | refine RL.splitD rfl rfl rfl (fun h => ?_) (fun h => ?_)) | (with_reducible first | refine Run.seq ?_ | refine Run.region ?_ | refine Run.skip ?_ | refine Run.ret ?_) | (with_reducible show Run _ _ (.cond _ _ _) _ _ _; first | refine Run.condT rfl ?_ | refine Run.condF rfl ?_ | refine Run.condD rfl (fun h => ?_) (fun h => ?_)) | (with_reducible first | refine seqN (K := Run _ _ _ _) ?_ | refine seqR ?_))
          all_goals first
            | (exfalso; omega)
            | (refine ⟨eA, _, [hsl tRow (vsv s38) (c.1 ++ [t]), hsl (tPair tInt (tS tInt)) (vsv s44) (c.2 ++ [(op, ns)])], resA, ?_, ?_⟩
               · exact SEnt.ch chA
               · exact ⟨s38, s44, pl, tries, false, rfl, rfl, SpQ.on hpl htr⟩)
            | trace_state
  · rw [addQ_end h2]
    by_cases hpl : 0 ≤ pl
    · repeat' (first | (with_reducible refine RL.done ?_) | (with_reducible refine RL.wanted ?_ ?_; exact rfl) | ((with_reducible show RH _ _ _ ⟨some 6, .box _ _, _, _, _, _⟩ _ _ _ _); (refine RH.boxAgg rfl rfl ?_; rintro _ _ ⟨b6, rfl, rfl⟩)) | ((with_reducible show RH _ _ _ ⟨some 8, .box _ _, _, _, _, _⟩ _ _ _ _); (refine RH.boxAgg rfl rfl ?_; rintro _ _ ⟨b8, rfl, rfl⟩)) | ((with_reducible show RH _ _ _ ⟨some 11, .box _ _, _, _, _, _⟩ _ _ _ _); (refine RH.boxAgg rfl rfl ?_; rintro _ _ ⟨b11, rfl, rfl⟩)) | ((with_reducible show RH _ _ _ ⟨some 12, .alloc _, _, _, _, _⟩ _ _ _ _); refine RH.alloc rfl ?_; rintro _ _ ⟨b12, rfl, rfl⟩) | ((with_reducible show RH _ _ _ _ _ _ _ _); first | refine RH.val (hK := ?_) | refine RH.upd (hK := ?_)) | (with_reducible show RL _ _ _ (_ :: _) _ _ _; first | refine RL.guardYes rfl rfl rfl rfl ?_ | refine RL.guardNoS rfl rfl rfl rfl rfl rfl ?_ | refine RL.splitD rfl rfl rfl (fun h => ?_) (fun h => ?_) | refine RL.split rfl rfl rfl (fun h => ?_) (fun h => ?_)) | (with_reducible first | refine Run.seq ?_ | refine Run.region ?_ | refine Run.ret ?_) | (with_reducible show Run _ _ (.cond _ _ _) _ _ _; refine Run.condT rfl ?_) | (with_reducible first | refine seqN (K := Run _ _ _ _) ?_ | refine seqR ?_))
      all_goals first
        | (exfalso; omega)
        | (refine ⟨eA, _, [hsl tRow (vsv s1) c.1, hsl (tPair tInt (tS tInt)) (vsv s2) c.2], resA, ?_, ?_⟩
           · exact SEnt.ch chA
           · exact ⟨s1, s2, pl, tries, o, rfl, rfl, q1, q2, q3⟩)
        | trace_state
    · have h1 : ¬ st = 1 := fun h => hpl (q1.2 h)
      have h3 : st = 3 := by rcases hs.st with h | h | h <;> (try dsimp only at h) <;> first | exact absurd h h1 | exact absurd h h2 | exact h
      have ho : o = true := q2.2 h3
      subst ho
      repeat' (first | (with_reducible refine RL.done ?_) | (with_reducible refine RL.wanted ?_ ?_; exact rfl) | ((with_reducible show RH _ _ _ ⟨some 6, .box _ _, _, _, _, _⟩ _ _ _ _); (refine RH.boxAgg rfl rfl ?_; rintro _ _ ⟨b6, rfl, rfl⟩)) | ((with_reducible show RH _ _ _ ⟨some 8, .box _ _, _, _, _, _⟩ _ _ _ _); (refine RH.boxAgg rfl rfl ?_; rintro _ _ ⟨b8, rfl, rfl⟩)) | ((with_reducible show RH _ _ _ ⟨some 11, .box _ _, _, _, _, _⟩ _ _ _ _); (refine RH.boxAgg rfl rfl ?_; rintro _ _ ⟨b11, rfl, rfl⟩)) | ((with_reducible show RH _ _ _ ⟨some 12, .alloc _, _, _, _, _⟩ _ _ _ _); refine RH.alloc rfl ?_; rintro _ _ ⟨b12, rfl, rfl⟩) | ((with_reducible show RH _ _ _ _ _ _ _ _); first | refine RH.val (hK := ?_) | refine RH.upd (hK := ?_)) | (with_reducible show RL _ _ _ (_ :: _) _ _ _; first | refine RL.guardYes rfl rfl rfl rfl ?_ | refine RL.guardNoS rfl rfl rfl rfl rfl rfl ?_ | refine RL.splitD rfl rfl rfl (fun h => ?_) (fun h => ?_)) | (with_reducible first | refine Run.seq ?_ | refine Run.region ?_ | refine Run.ret ?_) | (with_reducible show Run _ _ (.cond _ _ _) _ _ _; refine Run.condT rfl ?_) | (with_reducible first | refine seqN (K := Run _ _ _ _) ?_ | refine seqR ?_))
      all_goals first
        | (exfalso; omega)
        | (refine ⟨eA, _, [hsl tRow (vsv s1) c.1, hsl (tPair tInt (tS tInt)) (vsv s2) c.2], resA, ?_, ?_⟩
           · exact SEnt.ch chA
           · exact ⟨s1, s2, pl, tries, true, rfl, rfl, q1, q2, q3⟩)
        | trace_state
end Go.Proofs.Ytiifdhdhjioefaa

/- The search for a row that is good, the reference: spec.l15Find. Proved for this program; conditions: a small algebra and a condition that are allowed. -/
namespace Go.Proofs.Ytiifdhdhjioefaa
open Go Go.Proofs
set_option linter.unusedVariables false
abbrev spc (b5 : Nat) (s1 s2 : Sv) (pl tries : Int) (o : Bool) : HP := hcells b5 [vlit (vsv s1), vlit (vsv s2), vint pl, vint tries, vbool o]
abbrev spe (b4 : Nat) : HP := hcells b4 [vlit (.slice none 0 0), vlit (.slice none 0 0), vint 0, vint 0, vbool false]
theorem SpQ.at2 {s : QS} {pl tries : Int} {o : Bool} (h : SpQ s pl tries o) (h2 : s.2.2 = 2) : ¬ 0 ≤ pl ∧ o = false ∧ tries = (s.2.1 : Int) := by
  obtain ⟨q1, q2, q3⟩ := h
  refine ⟨fun e => by have := q1.1 e; omega, ?_, q3 (by omega)⟩
  cases o with
  | false => rfl
  | true => have := q2.1 rfl; omega
theorem SpQ.atEnd {s : QS} {pl tries : Int} {o : Bool} (h : SpQ s pl tries o) (hs : s.2.2 = 1 ∨ s.2.2 = 2 ∨ s.2.2 = 3) (h2 : ¬ s.2.2 = 2) : 0 ≤ pl ∨ o = true := by
  obtain ⟨q1, q2, q3⟩ := h
  rcases hs with e | e | e
  · exact .inl (q1.2 e)
  · exact absurd e h2
  · exact .inr (q2.2 e)
set_option maxRecDepth 10000 in
set_option maxHeartbeats 8000000 in
theorem l15Find_c (N k0 size : Nat) (os : List (Int × List Int)) (rs : List (List Int × List Int)) (hk : MalOk N k0 size os rs) :
    Spec Try.prog 124 [vagg [vint (N : Int), vsl 2 (fun y : Int × (List Int) => [vint y.1, vsl 1 (fun x : Int => [vint x]) y.2]) os], vagg [vint (k0 : Int), vsl 2 (fun y : (List Int) × (List Int) => [vsl 1 (fun x : Int => [vint x]) y.1, vsl 1 (fun x : Int => [vint x]) y.2]) rs]] [] (QSp (seaV N k0 size os rs)) := by
  obtain ⟨R, hR⟩ : ∃ R, seaV N k0 size os rs = R := ⟨_, rfl⟩
  rw [hR]
  have hn1 := hk.n1
  have hn4 := hk.n4
  have hFl := fstR_length N k0 size (pats rs) k0
  have hFi := fstR_inv (k := k0) (size := size) hk.n1 rs
  have h2 := hk.k2
  have h3 := hk.k3
  have hsz := rowS_le hk.n4 hk.cond
  obtain ⟨g1, g8, g4, hops⟩ := algB_at hk.alg
  refine Spec.of_run2 (n := 162) Try.func124 rfl Try.results124 Try.ntmps124 rfl ?_
  repeat' (first | (with_reducible refine RL.done ?_) | (with_reducible refine RL.wanted ?_ ?_; exact rfl) | ((with_reducible show Run _ _ (.region 2 _ true) _ _ _); refine Run.regionD (fun i => false) rfl ?_; change RD _ _ _ _ _ _ 8 (dm 8 0) _ _) | ((with_reducible show RD _ _ 2 _ _ _ _ _ _ _); first | ((with_reducible show RD _ _ _ _ _ _ _ (dm 8 0) _ _); refine RD.tk 0 (dm 8 226) (dm 8 1) (hK := ?_)) | ((with_reducible show RD _ _ _ _ _ _ _ (dm 8 1) _ _); refine RD.tk 2 (dm 8 232) (dm 8 5) (hK := ?_)) | ((with_reducible show RD _ _ _ _ _ _ _ (dm 8 5) _ _); refine RD.tk 3 (dm 8 224) (dm 8 13) (hK := ?_)) | ((with_reducible show RD _ _ _ _ _ _ _ (dm 8 13) _ _); refine RD.tk 4 (dm 8 224) (dm 8 29) (hK := ?_)) | ((with_reducible show RD _ _ _ _ _ _ _ (dm 8 29) _ _); refine RD.a1 1 ?_) | ((with_reducible show RD _ _ _ _ _ _ _ (dm 8 31) _ _); refine RD.a1 5 ?_) | ((with_reducible show RD _ _ _ _ _ _ _ (dm 8 63) _ _); refine RD.tk 6 (dm 8 128) (dm 8 127) (hK := ?_)) | ((with_reducible show RD _ _ _ _ _ _ _ (dm 8 127) _ _); refine RD.tk 7 (dm 8 0) (dm 8 255) (hK := ?_)) | ((with_reducible show RD _ _ _ _ _ _ 0 _ _ _); refine RD.done (by kernel_rfl) ?_)) | ((with_reducible show RO _ _ 2 _ _ _ _ _ _ _ _); first | ((with_reducible show RO _ _ _ _ _ _ _ (dm 8 29) 1 _ _); (refine RO.cP (dm 8 31) Try.call164 ?_; refine ⟨_, l15Patterns_c (k0 : Int) rs hk.cond, ?_⟩; rintro _ _ ⟨s18, rfl, rfl⟩; refine RD.app1 ?_; refine RD.frzS ?_)) | ((with_reducible show RO _ _ _ _ _ _ _ (dm 8 31) 5 _ _); (refine RO.cP (dm 8 63) Try.call165 ?_; refine ⟨_, l15First_c N k0 size hk.n1 hk.n4 rs hk.cond hk.pw hk.few, ?_⟩; rintro _ _ ⟨s22, rfl, rfl⟩; refine RD.app1 ?_; refine RD.frzS ?_))) | ((with_reducible show RH _ _ _ ⟨some 2, .box _ _, _, _, _, _⟩ _ _ _ _); (refine RH.boxAgg rfl rfl ?_; rintro _ _ ⟨b2, rfl, rfl⟩)) | ((with_reducible show RH _ _ _ ⟨some 3, .box _ _, _, _, _, _⟩ _ _ _ _); (refine RH.boxAgg rfl rfl ?_; rintro _ _ ⟨b3, rfl, rfl⟩)) | ((with_reducible show RH _ _ _ ⟨some 4, .alloc _, _, _, _, _⟩ _ _ _ _); refine RH.alloc rfl ?_; rintro _ _ ⟨b4, rfl, rfl⟩) | ((with_reducible show RH _ _ _ ⟨some 5, .alloc _, _, _, _, _⟩ _ _ _ _); refine RH.alloc rfl ?_; rintro _ _ ⟨b5, rfl, rfl⟩) | ((with_reducible show RH _ _ _ _ _ _ _ _); first | refine RH.val (hK := ?_) | refine RH.upd (hK := ?_)) | (with_reducible first | refine Run.seq ?_ | refine Run.region ?_ | refine Run.block ?_) | (with_reducible refine seqN (K := Run _ _ _ _) ?_))
  all_goals first
    | (exfalso; omega)
    | skip
  rw [seaV, seaQ] at hR
  generalize fstR N k0 size (pats rs) k0 = F at *
  have hFr : ∀ t ∈ F, t.length = rowS N rs ∧ elB (N : Int) t = true := hFi.row
  refine Run.sent (T := [hsl tRow (vsv (none, 0, 0)) [], hsl (tPair tInt (tS tInt)) (vsv (none, 0, 0)) [], spc b5 (none, 0, 0) (none, 0, 0) (-1) 0 false, spe b4, hcells b3 [vint (k0 : Int), vsl 2 (fun y : (List Int) × (List Int) => [vsl 1 (fun x : Int => [vint x]) y.1, vsl 1 (fun x : Int => [vint x]) y.2]) rs], hcells b2 [vint (N : Int), vsl 2 (fun y : Int × (List Int) => [vint y.1, vsl 1 (fun x : Int => [vint x]) y.2]) os]]) (((SEnt.nil tRow _).trans (SEnt.nil (tPair tInt (tS tInt)) _)).trans (SEnt.ch (.cons (.tail .head) rfl (.cons .head rfl chA)))) ?_
  refine Run.loop (α := Nat × Sv × Sv × Int × Int × Bool) (fun x => [(2, vptr b2 0), (3, vptr b3 0), (4, vptr b4 0), (5, vptr b5 0), (6, vsl 1 (fun t : List Int => [vsl 1 (fun x : Int => [vint x]) t]) (pats rs)), (7, vsl 1 (fun t : List Int => [vsl 1 (fun x : Int => [vint x]) t]) F), (8, vint (x.1 : Int))])
    (fun x => [hsl tRow (vsv x.2.1) (initQ (goodR N rs) F x.1).1.1, hsl (tPair tInt (tS tInt)) (vsv x.2.2.1) (initQ (goodR N rs) F x.1).1.2, spc b5 x.2.1 x.2.2.1 x.2.2.2.1 x.2.2.2.2.1 x.2.2.2.2.2, spe b4, hcells b3 [vint (k0 : Int), vsl 2 (fun y : (List Int) × (List Int) => [vsl 1 (fun x : Int => [vint x]) y.1, vsl 1 (fun x : Int => [vint x]) y.2]) rs], hcells b2 [vint (N : Int), vsl 2 (fun y : Int × (List Int) => [vint y.1, vsl 1 (fun x : Int => [vint x]) y.2]) os]])
    (fun x => x.1 ≤ F.length ∧ SpQ (initQ (goodR N rs) F x.1) x.2.2.2.1 x.2.2.2.2.1 x.2.2.2.2.2) (fun x => F.length - x.1) (0, (none, 0, 0), (none, 0, 0), -1, 0, false) ⟨Nat.zero_le _, SpQ.on (by show ¬ (0 : Int) ≤ -1; decide) rfl⟩ (Ent.of slA .refl) ?_
  rintro ⟨i, w1, w2, pl, tries, o⟩ ⟨hi, hsp⟩
  dsimp only at hi hsp ⊢
  have hQ := initQ_inv hFr (goodR N rs) i hi
  rcases Nat.lt_or_eq_of_le hi with hi9 | hi9
  · obtain ⟨hml, hme⟩ := hFr _ (List.getElem_mem hi9)
    have hstep : initQ (goodR N rs) F (i + 1) = addQ (goodR N rs) (initQ (goodR N rs) F i) F[i] (-1, [(i : Int)]) := by
      rw [initQ, List.getD_eq_getElem?_getD, List.getElem?_eq_getElem hi9]; rfl
    obtain ⟨S, hS⟩ : ∃ S, initQ (goodR N rs) F i = S := ⟨_, rfl⟩
    rw [hS] at hstep hQ hsp ⊢
    obtain ⟨c, tr, st⟩ := S
    have hadd := fun (b39 : Nat) => l15Add_c N k0 rs hk.n1 hk.n4 hk.cond w1 w2 (some ⟨b39, 0, none⟩, 1, 1) c tr st pl tries o hsp hQ F[i] (-1) [(i : Int)] hml
    rw [← hstep] at hadd
    repeat' (first | (with_reducible refine RL.done ?_) | (with_reducible refine RL.wanted ?_ ?_; exact rfl) | ((with_reducible show RD _ _ 6 _ _ _ _ _ _ (harr b39 _ _ _ _ :: _)); refine RD.weaken (SEnt.ent (show SEnt (harr b39 1 (fun x : Int => [vint x]) [(i : Int)] (1 * 1) :: _) (hsl tInt (vsv (some ⟨b39, 0, none⟩, 1, 1)) [(i : Int)] :: _) from SEnt.pack (fun _ => rfl) rfl)) ?_) | ((with_reducible show Run _ _ (.region 6 _ true) _ _ _); refine Run.regionD (fun i => i == 12 || i == 13) rfl ?_; change RD _ _ _ _ _ _ 14 (dm 14 0) _ _) | ((with_reducible show RD _ _ 6 _ _ _ _ _ _ _); first | ((with_reducible show RD _ _ _ _ _ _ _ (dm 14 0) _ _); refine RD.tk 0 (dm 14 12288) (dm 14 1) (hK := ?_)) | ((with_reducible show RD _ _ _ _ _ _ _ (dm 14 1) _ _); refine RD.tk 1 (dm 14 12292) (dm 14 3) (hK := ?_)) | ((with_reducible show RD _ _ _ _ _ _ _ (dm 14 3) _ _); refine RD.tk 2 (dm 14 12288) (dm 14 7) (hK := ?_)) | ((with_reducible show RD _ _ _ _ _ _ _ (dm 14 7) _ _); refine RD.tk 3 (dm 14 12288) (dm 14 15) (hK := ?_)) | ((with_reducible show RD _ _ _ _ _ _ _ (dm 14 15) _ _); refine RD.tk 4 (dm 14 12288) (dm 14 31) (hK := ?_)) | ((with_reducible show RD _ _ _ _ _ _ _ (dm 14 31) _ _); refine RD.tk 5 (dm 14 12672) (dm 14 63) (hK := ?_)) | ((with_reducible show RD _ _ _ _ _ _ _ (dm 14 63) _ _); refine RD.tk 6 (dm 14 12672) (dm 14 127) (hK := ?_)) | ((with_reducible show RD _ _ _ _ _ _ _ (dm 14 127) _ _); refine RD.tk 7 (dm 14 12544) (dm 14 255) (hK := ?_)) | ((with_reducible show RD _ _ _ _ _ _ _ (dm 14 255) _ _); refine RD.tk 8 (dm 14 12288) (dm 14 511) (hK := ?_)) | ((with_reducible show RD _ _ _ _ _ _ _ (dm 14 511) _ _); refine RD.tk 9 (dm 14 15360) (dm 14 1023) (hK := ?_)) | ((with_reducible show RD _ _ _ _ _ _ _ (dm 14 1023) _ _); refine RD.a1 10 ?_) | ((with_reducible show RD _ _ _ _ _ _ _ (dm 14 2047) _ _); refine RD.tk 11 (dm 14 12288) (dm 14 4095) (hK := ?_)) | ((with_reducible show RD _ _ _ _ _ _ _ (dm 14 4095) _ _); refine RD.a1 12 ?_) | ((with_reducible show RD _ _ _ _ _ _ _ (dm 14 8191) _ _); refine RD.a1 13 ?_) | ((with_reducible show RD _ _ _ _ _ _ 0 _ _ _); refine RD.done (by kernel_rfl) ?_)) | ((with_reducible show RO _ _ 6 _ _ _ _ _ _ _ _); first | ((with_reducible show RO _ _ _ _ _ _ _ (dm 14 1023) 10 _ _); (refine RO.eS (dm 14 2047) (hv := by show EOpS _ _ _ _ ⟨_, .buildSlice _ _ _, _, _, _, _⟩ _; exact EOpS.slit (fun x : Int => [vint x]) _ (fun _ _ => rfl) (by repeat (first | exact Elts.nil | (apply Elts.cons; exact rfl; exact CellsOf.one))) rfl rfl) (h := ?_); rintro _ _ ⟨b39, rfl, rfl⟩)) | ((with_reducible show RO _ _ _ _ _ _ _ (dm 14 4095) 12 _ _); (refine RO.h (dm 14 8191) ?_; show RH _ _ _ ⟨_, _, _, _, _, _⟩ _ _ _ _)) | ((with_reducible show RO _ _ _ _ _ _ _ (dm 14 8191) 13 _ _); (refine RO.h (dm 14 16383) ?_; show RH _ _ _ ⟨_, _, _, _, _, _⟩ _ _ _ _))) | ((with_reducible show RH _ _ _ ⟨_, .call ⟨.value (.func 166), _, _⟩, _, _, _, _⟩ _ _ _ _); refine RH.cW Try.call166 ?_; refine ⟨_, _, _, (by repeat (first | exact Pick.nil | (apply Pick.cons; (with_reducible repeat (first | exact Rem.head | apply Rem.tail))))), hadd b39, ?_⟩; rintro _ _ ⟨u1, u2, pl3, tries3, o3, rfl, rfl, hsp3⟩; refine RL.nm ?_) | ((with_reducible show RH _ _ _ _ _ _ _ _); first | refine RH.val (hK := ?_) | refine RH.upd (hK := ?_)) | (with_reducible first | refine Run.seq ?_ | refine Run.region ?_ | refine Run.block ?_ | refine Run.skip ?_ | refine Run.exit ?_) | (with_reducible show Run _ _ (.cond _ _ _) _ _ _; refine Run.condD rfl (fun h => ?_) (fun h => ?_)) | (with_reducible first | refine seqN (K := Run _ _ _ _) ?_ | refine seqE ?_ | refine blockN ?_ | refine blockE ?_))
    all_goals first
      | (exfalso; omega)
      | (with_reducible refine seqN ?_
         exact ⟨(i + 1, u1, u2, pl3, tries3, o3), ⟨by dsimp only; omega, hsp3⟩, by dsimp only; omega, Ent.of (by dsimp only; exact slA) (by dsimp only; exact chA)⟩)
      | trace_state
  · subst hi9
    have hc1 : 1 ≤ (initQ (goodR N rs) F F.length).1.1.length := by
      obtain ⟨q, hq⟩ : ∃ q, F.length = q + 1 := ⟨F.length - 1, by omega⟩
      rw [hq]; exact initQ_pos q
    obtain ⟨S0, hS0⟩ : ∃ S, initQ (goodR N rs) F F.length = S := ⟨_, rfl⟩
    rw [hS0] at hR hQ hsp hc1 ⊢
    repeat' (first | (with_reducible refine RL.done ?_) | (with_reducible refine RL.wanted ?_ ?_; exact rfl) | ((with_reducible show RH _ _ _ _ _ _ _ _); refine RH.val (hK := ?_)) | (with_reducible first | refine Run.seq ?_ | refine Run.region ?_ | refine Run.block ?_ | refine Run.skip ?_ | refine Run.exit ?_) | (with_reducible show Run _ _ (.cond _ _ _) _ _ _; refine Run.condD rfl (fun h => ?_) (fun h => ?_)) | (with_reducible first | refine seqN (K := Run _ _ _ _) ?_ | refine seqE ?_ | refine blockE ?_))
    all_goals first
      | (exfalso; omega)
      | skip
    refine Run.loop (α := Nat × Sv × Sv × Int × Int × Bool × QS × Nat) (fun x => [(2, vptr b2 0), (3, vptr b3 0), (4, vptr b4 0), (5, vptr b5 0), (6, vsl 1 (fun t : List Int => [vsl 1 (fun x : Int => [vint x]) t]) (pats rs)), (7, vsl 1 (fun t : List Int => [vsl 1 (fun x : Int => [vint x]) t]) F), (9, vint (x.1 : Int))])
      (fun x => [hsl tRow (vsv x.2.1) x.2.2.2.2.2.2.1.1.1, hsl (tPair tInt (tS tInt)) (vsv x.2.2.1) x.2.2.2.2.2.2.1.1.2, spc b5 x.2.1 x.2.2.1 x.2.2.2.1 x.2.2.2.2.1 x.2.2.2.2.2.1, spe b4, hcells b3 [vint (k0 : Int), vsl 2 (fun y : (List Int) × (List Int) => [vsl 1 (fun x : Int => [vint x]) y.1, vsl 1 (fun x : Int => [vint x]) y.2]) rs], hcells b2 [vint (N : Int), vsl 2 (fun y : Int × (List Int) => [vint y.1, vsl 1 (fun x : Int => [vint x]) y.2]) os]])
      (fun x => SpQ x.2.2.2.2.2.2.1 x.2.2.2.1 x.2.2.2.2.1 x.2.2.2.2.2.1 ∧ QInv (N : Int) (rowS N rs) x.2.2.2.2.2.2.1 ∧ 1 ≤ x.2.2.2.2.2.2.1.1.1.length ∧ findQ (goodR N rs) (N : Int) (rowS N rs) os x.2.2.2.2.2.2.2 x.2.2.2.2.2.2.1 x.1 = R ∧ 151 - x.1 ≤ x.2.2.2.2.2.2.2) (fun x => x.2.2.2.2.2.2.2) (0, w1, w2, pl, tries, o, S0, 152) ⟨hsp, hQ, hc1, hR, by dsimp only; omega⟩ (Ent.of slA chA) ?_
    rintro ⟨b, v1, v2, pl, tries, o, S, f⟩ ⟨hsp, hQ, hc1, hrun, hf⟩
    dsimp only at hsp hQ hc1 hrun hf ⊢
    by_cases hgo : S.2.2 = 2 ∧ b < S.1.1.length
    · obtain ⟨hst, hlt⟩ := hgo
      obtain ⟨hpl, rfl, htr⟩ := hsp.at2 hst
      have hfew := hQ.few
      obtain ⟨f, rfl⟩ : ∃ g, f = g + 1 := ⟨f - 1, by omega⟩
      rw [findQ_go hst hlt] at hrun
      obtain ⟨hQ3, hmore⟩ := rndQ_inv (G := goodR N rs) (b := b) hk.alg (by omega) hQ hc1 (Nat.le_refl _)
      obtain ⟨K, hK⟩ : ∃ K, S.1.1.length = K := ⟨_, rfl⟩
      obtain ⟨R2, hR2⟩ : ∃ R2, rndQ (goodR N rs) (N : Int) (rowS N rs) os K b S = R2 := ⟨_, rfl⟩
      rw [hK] at hlt hfew hrun hQ3 hmore hc1
      rw [hR2] at hrun hQ3 hmore
      repeat' (first | (with_reducible refine RL.done ?_) | (with_reducible refine RL.wanted ?_ ?_; exact rfl) | ((with_reducible show RH _ _ _ _ _ _ _ _); first | refine RH.val (hK := ?_) | refine RH.upd (hK := ?_)) | (with_reducible show RL _ _ _ (_ :: _) _ _ _; first | refine RL.guardYes rfl rfl rfl rfl ?_ | refine RL.guardNoS rfl rfl rfl rfl rfl rfl ?_ | refine RL.splitD rfl rfl rfl (fun h => ?_) (fun h => ?_)) | (with_reducible first | refine Run.seq ?_ | refine Run.region ?_ | refine Run.block ?_ | refine Run.skip ?_ | refine Run.exit ?_ | refine Run.ret ?_) | (with_reducible show Run _ _ (.cond _ _ _) _ _ _; first | refine Run.condT rfl ?_ | refine Run.condF rfl ?_) | (with_reducible first | refine seqN (K := Run _ _ _ _) ?_ | refine seqE ?_ | refine blockE ?_))
      all_goals first
        | (exfalso; omega)
        | skip
      rw [hK]
      refine Run.loop (α := Nat × Sv × Sv × Int × Int × Bool × QS) (fun x => [(2, vptr b2 0), (3, vptr b3 0), (4, vptr b4 0), (5, vptr b5 0), (6, vsl 1 (fun t : List Int => [vsl 1 (fun x : Int => [vint x]) t]) (pats rs)), (7, vsl 1 (fun t : List Int => [vsl 1 (fun x : Int => [vint x]) t]) F), (9, vint (b : Int)), (10, vint (K : Int)), (11, vint (x.1 : Int))])
        (fun x => [hsl tRow (vsv x.2.1) x.2.2.2.2.2.2.1.1, hsl (tPair tInt (tS tInt)) (vsv x.2.2.1) x.2.2.2.2.2.2.1.2, spc b5 x.2.1 x.2.2.1 x.2.2.2.1 x.2.2.2.2.1 x.2.2.2.2.2.1, spe b4, hcells b3 [vint (k0 : Int), vsl 2 (fun y : (List Int) × (List Int) => [vsl 1 (fun x : Int => [vint x]) y.1, vsl 1 (fun x : Int => [vint x]) y.2]) rs], hcells b2 [vint (N : Int), vsl 2 (fun y : Int × (List Int) => [vint y.1, vsl 1 (fun x : Int => [vint x]) y.2]) os]])
        (fun x => x.1 ≤ os.length ∧ SpQ x.2.2.2.2.2.2 x.2.2.2.1 x.2.2.2.2.1 x.2.2.2.2.2.1 ∧ QInv (N : Int) (rowS N rs) x.2.2.2.2.2.2 ∧ K ≤ x.2.2.2.2.2.2.1.1.length ∧ (os.zipIdx.drop x.1).foldl (opQ (goodR N rs) (N : Int) (rowS N rs) K b) x.2.2.2.2.2.2 = R2) (fun x => os.length - x.1) (0, v1, v2, pl, tries, false, S) ⟨Nat.zero_le _, hsp, hQ, by dsimp only; omega, hR2⟩ (Ent.of slA chA) ?_
      rintro ⟨j, v1, v2, pl, tries, o, S1⟩ ⟨hj, hsp, hQ, hK1, hrj⟩
      dsimp only at hj hsp hQ hK1 hrj ⊢
      rcases Nat.lt_or_eq_of_le hj with hj9 | hj9
      · have hoj := hops _ (List.getElem_mem hj9)
        have hob := hoj
        simp only [opB, Bool.and_eq_true, decide_eq_true_eq] at hob
        have hdrop : os.zipIdx.drop j = (os[j], j) :: os.zipIdx.drop (j + 1) := by
          rw [List.drop_eq_getElem_cons (by simpa using hj9)]; simp
        rw [hdrop, List.foldl_cons] at hrj
        have hkf : ((os[j].1.toNat : Nat) : Int) = os[j].1 := by omega
        have hpow := l2Pow_c (K : Int) os[j].1.toNat (by omega) (by omega) (by omega)
        obtain ⟨hp0, hpb⟩ := pw_bound (K : Int) (by omega) (by omega) os[j].1.toNat (by omega)
        have hM : ((many K os[j] : Nat) : Int) = pw (K : Int) os[j].1.toNat := by rw [many]; omega
        rw [hkf, ← hM] at hpow
        repeat' (first | (with_reducible refine RL.done ?_) | (with_reducible refine RL.wanted ?_ ?_; exact rfl) | ((with_reducible show RH _ _ _ _ _ _ _ _); refine RH.val (hK := ?_)) | (with_reducible first | refine Run.seq ?_ | refine Run.region ?_ | refine Run.block ?_ | refine Run.skip ?_ | refine Run.exit ?_) | (with_reducible show Run _ _ (.cond _ _ _) _ _ _; refine Run.condD rfl (fun h => ?_) (fun h => ?_)) | (with_reducible first | refine seqN (K := Run _ _ _ _) ?_ | refine seqE ?_ | refine blockN ?_ | refine blockE ?_))
        all_goals first
          | (exfalso; omega)
          | skip
        refine Run.loop (α := Nat × Sv × Sv × Int × Int × Bool × QS) (fun x => [(2, vptr b2 0), (3, vptr b3 0), (4, vptr b4 0), (5, vptr b5 0), (6, vsl 1 (fun t : List Int => [vsl 1 (fun x : Int => [vint x]) t]) (pats rs)), (7, vsl 1 (fun t : List Int => [vsl 1 (fun x : Int => [vint x]) t]) F), (9, vint (b : Int)), (10, vint (K : Int)), (11, vint (j : Int)), (12, vint (x.1 : Int))])
          (fun x => [hsl tRow (vsv x.2.1) x.2.2.2.2.2.2.1.1, hsl (tPair tInt (tS tInt)) (vsv x.2.2.1) x.2.2.2.2.2.2.1.2, spc b5 x.2.1 x.2.2.1 x.2.2.2.1 x.2.2.2.2.1 x.2.2.2.2.2.1, spe b4, hcells b3 [vint (k0 : Int), vsl 2 (fun y : (List Int) × (List Int) => [vsl 1 (fun x : Int => [vint x]) y.1, vsl 1 (fun x : Int => [vint x]) y.2]) rs], hcells b2 [vint (N : Int), vsl 2 (fun y : Int × (List Int) => [vint y.1, vsl 1 (fun x : Int => [vint x]) y.2]) os]])
          (fun x => x.1 ≤ many K os[j] ∧ SpQ x.2.2.2.2.2.2 x.2.2.2.1 x.2.2.2.2.1 x.2.2.2.2.2.1 ∧ QInv (N : Int) (rowS N rs) x.2.2.2.2.2.2 ∧ K ≤ x.2.2.2.2.2.2.1.1.length ∧ (os.zipIdx.drop (j + 1)).foldl (opQ (goodR N rs) (N : Int) (rowS N rs) K b) ((List.range' x.1 (many K os[j] - x.1)).foldl (stepQ (goodR N rs) (N : Int) (rowS N rs) os[j] j K b) x.2.2.2.2.2.2) = R2) (fun x => many K os[j] - x.1) (0, v1, v2, pl, tries, o, S1) ⟨Nat.zero_le _, hsp, hQ, hK1, hrj⟩ (Ent.of slA chA) ?_
        rintro ⟨i, v1, v2, pl, tries, o, S2⟩ ⟨hi, hsp, hQ, hK2, hri⟩
        dsimp only at hi hsp hQ hK2 hri ⊢
        by_cases hgo2 : S2.2.2 = 2
        · obtain ⟨hpl, rfl, htr⟩ := hsp.at2 hgo2
          obtain ⟨c2, tr2, st2⟩ := S2
          dsimp only at hgo2 hK2 htr
          subst hgo2
          have hfew2 : c2.1.length ≤ 150 := hQ.few
          have htr2 : tr2 ≤ 100000 := hQ.tr
          rcases Nat.lt_or_eq_of_le hi with hi9 | hi9
          · have hrg : List.range' i (many K os[j] - i) = i :: List.range' (i + 1) (many K os[j] - (i + 1)) := by
              rw [show many K os[j] - i = (many K os[j] - (i + 1)) + 1 by omega, List.range'_succ]
            rw [hrg, List.foldl_cons] at hri
            have hfr := l12Fresh_c K os[j].1.toNat b i hc1 (by omega) (by omega)
            have hargs := l2Args_c (i : Int) (K : Int) os[j].1.toNat (by omega) (by omega) (by omega) (by omega)
            rw [hkf] at hfr hargs
            obtain ⟨L, hL⟩ : ∃ L, lowd (i : Int) (K : Int) os[j].1.toNat = L := ⟨_, rfl⟩
            have hll : L.length = os[j].1.toNat := by rw [← hL]; exact lowd_length _ _ _
            have hnum : ∀ x ∈ L, 0 ≤ x ∧ x.toNat < c2.1.length := fun x hx => by
              rw [← hL] at hx
              have := low_in (k := os[j].1.toNat) (i := i) hc1 x hx
              omega
            rw [hL] at hargs
            cases hf2 : fresh K os[j].1.toNat b i with
            | false =>
              rw [hf2] at hfr
              rw [stepQ_skip hf2] at hri
              repeat' (first | (with_reducible first | refine RL.done ?_ | refine RL.app0 ?_) | (with_reducible refine RL.wanted ?_ ?_; exact rfl) | ((with_reducible show RH _ _ _ ⟨_, .call ⟨.value (.func 99), _, _⟩, _, _, _, _⟩ _ _ _ _); refine RH.cP Try.call99 ?_; refine ⟨_, hpow, ?_⟩; rintro _ _ ⟨rfl, rfl⟩) | ((with_reducible show RH _ _ _ ⟨_, .call ⟨.value (.func 167), _, _⟩, _, _, _, _⟩ _ _ _ _); refine RH.cP Try.call167 ?_; refine ⟨_, hfr, ?_⟩; rintro _ _ ⟨rfl, rfl⟩) | ((with_reducible show RH _ _ _ _ _ _ _ _); refine RH.val (hK := ?_)) | (with_reducible show RL _ _ _ (_ :: _) _ _ _; first | refine RL.guardYes rfl rfl rfl rfl ?_ | refine RL.guardNoS rfl rfl rfl rfl rfl rfl ?_ | refine RL.splitD rfl rfl rfl (fun h => ?_) (fun h => ?_)) | (with_reducible first | refine Run.seq ?_ | refine Run.region ?_ | refine Run.block ?_ | refine Run.skip ?_ | refine Run.exit ?_) | (with_reducible show Run _ _ (.cond _ _ _) _ _ _; first | refine Run.condT rfl ?_ | refine Run.condF rfl ?_) | (with_reducible first | refine seqN (K := Run _ _ _ _) ?_ | refine seqE ?_ | refine blockN ?_ | refine blockE ?_))
              all_goals first
                | (exfalso; omega)
                | (with_reducible refine seqN ?_
                   exact ⟨(i + 1, v1, v2, pl, tries, false, (c2, tr2, 2)), ⟨by dsimp only; omega, hsp, hQ, hK2, hri⟩, by dsimp only; omega, Ent.of (by dsimp only; exact slA) (by dsimp only; exact chA)⟩)
                | trace_state
            | true =>
              rw [hf2] at hfr
              repeat' (first | (with_reducible first | refine RL.done ?_ | refine RL.app0 ?_ | refine RL.app1 ?_) | (with_reducible refine RL.wanted ?_ ?_; exact rfl) | ((with_reducible show RH _ _ _ ⟨some 109, .buildSlice _ _ _, _, _, _, _⟩ _ _ _ _); (refine RH.eff rfl rfl (EOpS.e (EOpS.slitV (by ((repeat (first | exact Elts.nil | apply Elts.one1 rfl | apply Elts.agg2 rfl)); done)) (by simp) rfl rfl)) ?_; rintro _ _ ⟨b109, rfl, rfl⟩)) | ((with_reducible show RH _ _ _ ⟨_, .call ⟨.value (.func 99), _, _⟩, _, _, _, _⟩ _ _ _ _); refine RH.cP Try.call99 ?_; refine ⟨_, hpow, ?_⟩; rintro _ _ ⟨rfl, rfl⟩) | ((with_reducible show RH _ _ _ ⟨_, .call ⟨.value (.func 167), _, _⟩, _, _, _, _⟩ _ _ _ _); refine RH.cP Try.call167 ?_; refine ⟨_, hfr, ?_⟩; rintro _ _ ⟨rfl, rfl⟩) | ((with_reducible show RH _ _ _ ⟨_, .call ⟨.value (.func 100), _, _⟩, _, _, _, _⟩ _ _ _ _); refine RH.cP Try.call100 ?_; refine ⟨_, hargs, ?_⟩; rintro _ _ ⟨sa, rfl, rfl⟩) | ((with_reducible show RH _ _ _ _ _ _ _ _); refine RH.val (hK := ?_)) | (with_reducible show RL _ _ _ (_ :: _) _ _ _; first | refine RL.guardYes rfl rfl rfl rfl ?_ | refine RL.guardNoS rfl rfl rfl rfl rfl rfl ?_ | refine RL.splitD rfl rfl rfl (fun h => ?_) (fun h => ?_)) | (with_reducible first | refine Run.seq ?_ | refine Run.region ?_ | refine Run.block ?_ | refine Run.skip ?_ | refine Run.exit ?_) | (with_reducible show Run _ _ (.cond _ _ _) _ _ _; first | refine Run.condT rfl ?_ | refine Run.condF rfl ?_) | (with_reducible first | refine seqN (K := Run _ _ _ _) ?_ | refine seqE ?_ | refine blockN ?_ | refine blockE ?_))
              all_goals first
                | (exfalso; omega)
                | skip
              refine Run.sent (T := [hsl tRow (vsv (some ⟨b109, 0, none⟩, 0, 0)) [], hsl tInt (vsv sa) L, hsl tRow (vsv v1) c2.1, hsl (tPair tInt (tS tInt)) (vsv v2) c2.2, spc b5 v1 v2 pl tries false, spe b4, hcells b3 [vint (k0 : Int), vsl 2 (fun y : (List Int) × (List Int) => [vsl 1 (fun x : Int => [vint x]) y.1, vsl 1 (fun x : Int => [vint x]) y.2]) rs], hcells b2 [vint (N : Int), vsl 2 (fun y : Int × (List Int) => [vint y.1, vsl 1 (fun x : Int => [vint x]) y.2]) os]]) ((SEnt.packNil tRow rfl).trans (SEnt.ch chA)) ?_
              refine Run.loop (α := Nat × Sv) (fun x => [(2, vptr b2 0), (3, vptr b3 0), (4, vptr b4 0), (5, vptr b5 0), (6, vsl 1 (fun t : List Int => [vsl 1 (fun x : Int => [vint x]) t]) (pats rs)), (7, vsl 1 (fun t : List Int => [vsl 1 (fun x : Int => [vint x]) t]) F), (9, vint (b : Int)), (10, vint (K : Int)), (11, vint (j : Int)), (12, vint (i : Int)), (13, vlit (vsv sa)), (14, vlit (vsv x.2)), (15, vint (x.1 : Int))])
                (fun x => [hsl tRow (vsv x.2) (chosen c2.1 (L.take x.1)), hsl tInt (vsv sa) L, hsl tRow (vsv v1) c2.1, hsl (tPair tInt (tS tInt)) (vsv v2) c2.2, spc b5 v1 v2 pl tries false, spe b4, hcells b3 [vint (k0 : Int), vsl 2 (fun y : (List Int) × (List Int) => [vsl 1 (fun x : Int => [vint x]) y.1, vsl 1 (fun x : Int => [vint x]) y.2]) rs], hcells b2 [vint (N : Int), vsl 2 (fun y : Int × (List Int) => [vint y.1, vsl 1 (fun x : Int => [vint x]) y.2]) os]]) (fun x => x.1 ≤ L.length) (fun x => L.length - x.1) (0, (some ⟨b109, 0, none⟩, 0, 0)) (Nat.zero_le _) (Ent.of slA (.cons .head rfl chA)) ?_
              rintro ⟨q, sq⟩ hq
              dsimp only at hq ⊢
              have hcl : (chosen c2.1 (L.take q)).length = q := by simp [chosen]; omega
              rcases Nat.lt_or_eq_of_le hq with hq9 | hq9
              · have hxq := hnum _ (List.getElem_mem hq9)
                have hct := chosen_take c2.1 L q hq9 hxq.2
                repeat' (first | (with_reducible refine RL.done ?_) | (with_reducible refine RL.wanted ?_ ?_; exact rfl) | ((with_reducible show Run _ _ (.region 22 _ true) _ _ _); refine Run.regionD (fun i => i == 10) rfl ?_; change RD _ _ _ _ _ _ 12 (dm 12 0) _ _) | ((with_reducible show RD _ _ 22 _ _ _ _ _ _ _); first | ((with_reducible show RD _ _ _ _ _ _ _ (dm 12 0) _ _); refine RD.tk 0 (dm 12 3072) (dm 12 1) (hK := ?_)) | ((with_reducible show RD _ _ _ _ _ _ _ (dm 12 1) _ _); refine RD.tk 1 (dm 12 3972) (dm 12 3) (hK := ?_)) | ((with_reducible show RD _ _ _ _ _ _ _ (dm 12 3) _ _); refine RD.tk 2 (dm 12 3968) (dm 12 7) (hK := ?_)) | ((with_reducible show RD _ _ _ _ _ _ _ (dm 12 7) _ _); refine RD.tk 3 (dm 12 4064) (dm 12 15) (hK := ?_)) | ((with_reducible show RD _ _ _ _ _ _ _ (dm 12 15) _ _); refine RD.tk 4 (dm 12 4064) (dm 12 31) (hK := ?_)) | ((with_reducible show RD _ _ _ _ _ _ _ (dm 12 31) _ _); refine RD.tk 5 (dm 12 4032) (dm 12 63) (hK := ?_)) | ((with_reducible show RD _ _ _ _ _ _ _ (dm 12 63) _ _); refine RD.tk 6 (dm 12 3968) (dm 12 127) (hK := ?_)) | ((with_reducible show RD _ _ _ _ _ _ _ (dm 12 127) _ _); refine RD.tk 7 (dm 12 3840) (dm 12 255) (hK := ?_)) | ((with_reducible show RD _ _ _ _ _ _ _ (dm 12 255) _ _); refine RD.tk 8 (dm 12 3584) (dm 12 511) (hK := ?_)) | ((with_reducible show RD _ _ _ _ _ _ _ (dm 12 511) _ _); refine RD.a1 9 ?_) | ((with_reducible show RD _ _ _ _ _ _ _ (dm 12 1023) _ _); refine RD.a1 10 ?_) | ((with_reducible show RD _ _ _ _ _ _ _ (dm 12 2047) _ _); refine RD.tk 11 (dm 12 0) (dm 12 4095) (hK := ?_)) | ((with_reducible show RD _ _ _ _ _ _ 0 _ _ _); refine RD.done (by kernel_rfl) ?_)) | ((with_reducible show RO _ _ 22 _ _ _ _ _ _ _ _); first | ((with_reducible show RO _ _ _ _ _ _ _ (dm 12 511) 9 _ _); (refine RO.eS (dm 12 1023) (hv := by show EOpS _ _ _ _ ⟨_, .buildSlice _ _ _, _, _, _, _⟩ _; exact EOpS.slit (fun t : List Int => [vsl 1 (fun x : Int => [vint x]) t]) _ (fun _ _ => rfl) (by ((repeat (first | exact Elts.nil | (apply Elts.cons; exact rfl; exact CellsOf.one))); done)) rfl rfl) (h := ?_); rintro _ _ ⟨b125, rfl, rfl⟩)) | ((with_reducible show RO _ _ _ _ _ _ _ (dm 12 1023) 10 _ _); (refine RO.h (dm 12 2047) ?_; show RH _ _ _ ⟨_, _, _, _, _, _⟩ _ _ _ _))) | ((with_reducible show Run _ _ (.region 26 _ true) _ _ _); refine Run.regionD (fun i => i == 22) rfl ?_; change RD _ _ _ _ _ _ 23 (dm 23 0) _ _) | ((with_reducible show RD _ _ 26 _ _ _ _ _ _ _); first | ((with_reducible show RD _ _ _ _ _ _ _ (dm 23 0) _ _); refine RD.tk 0 (dm 23 6291456) (dm 23 1) (hK := ?_)) | ((with_reducible show RD _ _ _ _ _ _ _ (dm 23 1) _ _); refine RD.tk 1 (dm 23 6291460) (dm 23 3) (hK := ?_)) | ((with_reducible show RD _ _ _ _ _ _ _ (dm 23 3) _ _); refine RD.tk 2 (dm 23 6291456) (dm 23 7) (hK := ?_)) | ((with_reducible show RD _ _ _ _ _ _ _ (dm 23 7) _ _); refine RD.tk 3 (dm 23 6291456) (dm 23 15) (hK := ?_)) | ((with_reducible show RD _ _ _ _ _ _ _ (dm 23 15) _ _); refine RD.tk 4 (dm 23 6291456) (dm 23 31) (hK := ?_)) | ((with_reducible show RD _ _ _ _ _ _ _ (dm 23 31) _ _); refine RD.tk 5 (dm 23 6422592) (dm 23 63) (hK := ?_)) | ((with_reducible show RD _ _ _ _ _ _ _ (dm 23 63) _ _); refine RD.tk 6 (dm 23 6422528) (dm 23 127) (hK := ?_)) | ((with_reducible show RD _ _ _ _ _ _ _ (dm 23 127) _ _); refine RD.tk 7 (dm 23 6425856) (dm 23 255) (hK := ?_)) | ((with_reducible show RD _ _ _ _ _ _ _ (dm 23 255) _ _); refine RD.tk 8 (dm 23 6425600) (dm 23 511) (hK := ?_)) | ((with_reducible show RD _ _ _ _ _ _ _ (dm 23 511) _ _); refine RD.tk 9 (dm 23 6425600) (dm 23 1023) (hK := ?_)) | ((with_reducible show RD _ _ _ _ _ _ _ (dm 23 1023) _ _); refine RD.tk 10 (dm 23 6424576) (dm 23 2047) (hK := ?_)) | ((with_reducible show RD _ _ _ _ _ _ _ (dm 23 2047) _ _); refine RD.tk 11 (dm 23 6422528) (dm 23 4095) (hK := ?_)) | ((with_reducible show RD _ _ _ _ _ _ _ (dm 23 4095) _ _); refine RD.tk 12 (dm 23 6422528) (dm 23 8191) (hK := ?_)) | ((with_reducible show RD _ _ _ _ _ _ _ (dm 23 8191) _ _); refine RD.tk 13 (dm 23 6537216) (dm 23 16383) (hK := ?_)) | ((with_reducible show RD _ _ _ _ _ _ _ (dm 23 16383) _ _); refine RD.tk 14 (dm 23 6520832) (dm 23 32767) (hK := ?_)) | ((with_reducible show RD _ _ _ _ _ _ _ (dm 23 32767) _ _); refine RD.tk 15 (dm 23 6488064) (dm 23 65535) (hK := ?_)) | ((with_reducible show RD _ _ _ _ _ _ _ (dm 23 65535) _ _); refine RD.tk 16 (dm 23 6422528) (dm 23 131071) (hK := ?_)) | ((with_reducible show RD _ _ _ _ _ _ _ (dm 23 131071) _ _); refine RD.tk 18 (dm 23 7340032) (dm 23 393215) (hK := ?_)) | ((with_reducible show RD _ _ _ _ _ _ _ (dm 23 393215) _ _); refine RD.tk 19 (dm 23 7340032) (dm 23 917503) (hK := ?_)) | ((with_reducible show RD _ _ _ _ _ _ _ (dm 23 917503) _ _); refine RD.tk 20 (dm 23 6291456) (dm 23 1966079) (hK := ?_)) | ((with_reducible show RD _ _ _ _ _ _ _ (dm 23 1966079) _ _); refine RD.a1 17 ?_)) | ((with_reducible show RH _ _ _ ⟨_, .call ⟨.builtin .append, _, _⟩, _, _, _, _⟩ _ _ _ _); (refine RH.appF rfl rfl rfl (by repeat (first | exact Pick.nil | (apply Pick.cons; (with_reducible repeat (first | exact Rem.head | apply Rem.tail))))) (by first | omega | (simp; omega)) (by first | omega | (simp; omega)) ?_); rintro _ _ ⟨s, rfl, rfl⟩) | ((with_reducible show RH _ _ _ _ _ _ _ _); first | refine RH.val (hK := ?_) | refine RH.upd (hK := ?_)) | (with_reducible first | refine Run.seq ?_ | refine Run.region ?_ | refine Run.block ?_ | refine Run.skip ?_ | refine Run.exit ?_) | (with_reducible show Run _ _ (.cond _ _ _) _ _ _; first | refine Run.condD rfl (fun h => ?_) (fun h => ?_) | refine Run.condND rfl (fun h => ?_) (fun h => ?_)) | (with_reducible first | refine seqN (K := Run _ _ _ _) ?_ | refine seqE ?_ | refine blockN ?_ | refine blockE ?_))
                all_goals first
                  | (exfalso; omega)
                  | (with_reducible refine seqN ?_
                     exact ⟨(q + 1, _), by dsimp only; omega, by dsimp only; omega, Ent.of (by dsimp only; exact slA) (by dsimp only; rw [hct]; exact chA)⟩)
                  | trace_state
              · subst hq9
                rw [List.take_length] at hcl ⊢
                by_cases ht : tr2 = 100000
                · rw [stepQ_many rfl hf2 ht] at hri
                  have ho3 : decide ((100000 : Int) < tries + 1) = true := decide_eq_true (by omega)
                  have hQ3 : QInv (N : Int) (rowS N rs) (c2, tr2, 3) := ⟨hQ.inv, hQ.few, hQ.tr, .inr (.inr rfl)⟩
                  have hsp3 : SpQ (c2, tr2, 3) pl (tries + 1) (decide ((100000 : Int) < tries + 1)) := by rw [ho3]; exact SpQ.open hpl
                  repeat' (first | (with_reducible refine RL.done ?_) | (with_reducible refine RL.wanted ?_ ?_; exact rfl) | ((with_reducible show RH _ _ _ _ _ _ _ _); first | refine RH.val (hK := ?_) | refine RH.upd (hK := ?_)) | (with_reducible first | refine Run.seq ?_ | refine Run.region ?_ | refine Run.block ?_ | refine Run.skip ?_ | refine Run.exit ?_) | (with_reducible show Run _ _ (.cond _ _ _) _ _ _; first | refine Run.condD rfl (fun h => ?_) (fun h => ?_) | refine Run.condND rfl (fun h => ?_) (fun h => ?_)) | (with_reducible first | refine seqN (K := Run _ _ _ _) ?_ | refine seqE ?_ | refine blockN ?_ | refine blockE ?_))
                  all_goals first
                    | (exfalso; omega)
                    | (with_reducible refine seqN ?_
                       exact ⟨(i + 1, v1, v2, pl, tries + 1, decide ((100000 : Int) < tries + 1), (c2, tr2, 3)), ⟨by dsimp only; omega, hsp3, hQ3, hK2, hri⟩, by dsimp only; omega, Ent.of (by dsimp only; exact slA) (by dsimp only; exact chA)⟩)
                    | trace_state
                · have hF0 : 0 < F.length := by omega
                  have hF0l : (F[0]'hF0).length = rowS N rs := (hFr _ (List.getElem_mem hF0)).1
                  have hap := opAp' hQ.inv g1 g8 (by omega) hoj hll hnum
                  have htel := applyT_el hap (opB_tab hoj)
                  have hcomp : Spec Try.prog 168 [vint (N : Int), vagg [vint os[j].1, vsl 1 (fun x : Int => [vint x]) os[j].2], vsl 1 (fun t : List Int => [vsl 1 (fun x : Int => [vint x]) t]) (chosen c2.1 L), vint ((F[0]'hF0).length : Int)] [] (fun r S' => ∃ s : Sv, r = vlit (vsv s) ∧ S' = [hsl tInt (vsv s) (applyT (N : Int) os[j].2 (chosen c2.1 L) (rowS N rs))]) := by
                    rw [hF0l]; exact l12Compose_c (N : Int) os[j].1 os[j].2 _ (rowS N rs) hap
                  have ho3 : decide ((100000 : Int) < tries + 1) = false := decide_eq_false (by omega)
                  have hQ3 : QInv (N : Int) (rowS N rs) (c2, tr2 + 1, 2) := ⟨hQ.inv, hQ.few, by show tr2 + 1 ≤ 100000; omega, .inr (.inl rfl)⟩
                  have hsp2 : SpQ (c2, tr2 + 1, 2) pl (tries + 1) (decide ((100000 : Int) < tries + 1)) := by rw [ho3]; exact SpQ.on hpl (by omega)
                  have hadd := l15Add_c N k0 rs hk.n1 hk.n4 hk.cond v1 v2 sa c2 (tr2 + 1) 2 pl (tries + 1) (decide ((100000 : Int) < tries + 1)) hsp2 hQ3 (applyT (N : Int) os[j].2 (chosen c2.1 L) (rowS N rs)) (j : Int) L (applyT_length _ _ _ _)
                  have hi3 := hQ3.add (G := goodR N rs) (sp := ((j : Int), L)) (applyT_length (N : Int) os[j].2 (chosen c2.1 L) (rowS N rs)) htel
                  have hmore3 := addQ_more (goodR N rs) (c2, tr2 + 1, 2) (applyT (N : Int) os[j].2 (chosen c2.1 L) (rowS N rs)) ((j : Int), L)
                  rw [stepQ_add rfl hf2 ht, hL] at hri
                  obtain ⟨S3, hS3⟩ : ∃ S, addQ (goodR N rs) (c2, tr2 + 1, 2) (applyT (N : Int) os[j].2 (chosen c2.1 L) (rowS N rs)) ((j : Int), L) = S := ⟨_, rfl⟩
                  simp only [hS3] at hadd hi3 hmore3
                  have hri : List.foldl (opQ (goodR N rs) (N : Int) (rowS N rs) K b) (List.foldl (stepQ (goodR N rs) (N : Int) (rowS N rs) os[j] j K b) S3 (List.range' (i + 1) (many K os[j] - (i + 1)))) (os.zipIdx.drop (j + 1)) = R2 := by rw [← hS3]; exact hri
                  repeat' (first | (with_reducible refine RL.done ?_) | (with_reducible refine RL.wanted ?_ ?_; exact rfl) | ((with_reducible show Run _ _ (.region 22 _ true) _ _ _); refine Run.regionD (fun i => i == 10) rfl ?_; change RD _ _ _ _ _ _ 12 (dm 12 0) _ _) | ((with_reducible show RD _ _ 22 _ _ _ _ _ _ _); first | ((with_reducible show RD _ _ _ _ _ _ _ (dm 12 0) _ _); refine RD.tk 0 (dm 12 3072) (dm 12 1) (hK := ?_)) | ((with_reducible show RD _ _ _ _ _ _ _ (dm 12 1) _ _); refine RD.tk 1 (dm 12 3972) (dm 12 3) (hK := ?_)) | ((with_reducible show RD _ _ _ _ _ _ _ (dm 12 3) _ _); refine RD.tk 2 (dm 12 3968) (dm 12 7) (hK := ?_)) | ((with_reducible show RD _ _ _ _ _ _ _ (dm 12 7) _ _); refine RD.tk 3 (dm 12 4064) (dm 12 15) (hK := ?_)) | ((with_reducible show RD _ _ _ _ _ _ _ (dm 12 15) _ _); refine RD.tk 4 (dm 12 4064) (dm 12 31) (hK := ?_)) | ((with_reducible show RD _ _ _ _ _ _ _ (dm 12 31) _ _); refine RD.tk 5 (dm 12 4032) (dm 12 63) (hK := ?_)) | ((with_reducible show RD _ _ _ _ _ _ _ (dm 12 63) _ _); refine RD.tk 6 (dm 12 3968) (dm 12 127) (hK := ?_)) | ((with_reducible show RD _ _ _ _ _ _ _ (dm 12 127) _ _); refine RD.tk 7 (dm 12 3840) (dm 12 255) (hK := ?_)) | ((with_reducible show RD _ _ _ _ _ _ _ (dm 12 255) _ _); refine RD.tk 8 (dm 12 3584) (dm 12 511) (hK := ?_)) | ((with_reducible show RD _ _ _ _ _ _ _ (dm 12 511) _ _); refine RD.a1 9 ?_) | ((with_reducible show RD _ _ _ _ _ _ _ (dm 12 1023) _ _); refine RD.a1 10 ?_)) | ((with_reducible show RO _ _ 22 _ _ _ _ _ _ _ _); first | ((with_reducible show RO _ _ _ _ _ _ _ (dm 12 511) 9 _ _); (refine RO.eS (dm 12 1023) (hv := by show EOpS _ _ _ _ ⟨_, .buildSlice _ _ _, _, _, _, _⟩ _; exact EOpS.slit (fun t : List Int => [vsl 1 (fun x : Int => [vint x]) t]) _ (fun _ _ => rfl) (by ((repeat (first | exact Elts.nil | (apply Elts.cons; exact rfl; exact CellsOf.one))); done)) rfl rfl) (h := ?_); rintro _ _ ⟨b125, rfl, rfl⟩)) | ((with_reducible show RO _ _ _ _ _ _ _ (dm 12 1023) 10 _ _); (refine RO.h (dm 12 2047) ?_; show RH _ _ _ ⟨_, _, _, _, _, _⟩ _ _ _ _))) | ((with_reducible show Run _ _ (.region 26 _ true) _ _ _); refine Run.regionD (fun i => i == 21 || i == 22) rfl ?_; change RD _ _ _ _ _ _ 23 (dm 23 0) _ _) | ((with_reducible show RD _ _ 26 _ _ _ _ _ _ _); first | ((with_reducible show RD _ _ _ _ _ _ _ (dm 23 0) _ _); refine RD.tk 0 (dm 23 6291456) (dm 23 1) (hK := ?_)) | ((with_reducible show RD _ _ _ _ _ _ _ (dm 23 1) _ _); refine RD.tk 1 (dm 23 6291460) (dm 23 3) (hK := ?_)) | ((with_reducible show RD _ _ _ _ _ _ _ (dm 23 3) _ _); refine RD.tk 2 (dm 23 6291456) (dm 23 7) (hK := ?_)) | ((with_reducible show RD _ _ _ _ _ _ _ (dm 23 7) _ _); refine RD.tk 3 (dm 23 6291456) (dm 23 15) (hK := ?_)) | ((with_reducible show RD _ _ _ _ _ _ _ (dm 23 15) _ _); refine RD.tk 4 (dm 23 6291456) (dm 23 31) (hK := ?_)) | ((with_reducible show RD _ _ _ _ _ _ _ (dm 23 31) _ _); refine RD.tk 5 (dm 23 6422592) (dm 23 63) (hK := ?_)) | ((with_reducible show RD _ _ _ _ _ _ _ (dm 23 63) _ _); refine RD.tk 6 (dm 23 6422528) (dm 23 127) (hK := ?_)) | ((with_reducible show RD _ _ _ _ _ _ _ (dm 23 127) _ _); refine RD.tk 7 (dm 23 6425856) (dm 23 255) (hK := ?_)) | ((with_reducible show RD _ _ _ _ _ _ _ (dm 23 255) _ _); refine RD.tk 8 (dm 23 6425600) (dm 23 511) (hK := ?_)) | ((with_reducible show RD _ _ _ _ _ _ _ (dm 23 511) _ _); refine RD.tk 9 (dm 23 6425600) (dm 23 1023) (hK := ?_)) | ((with_reducible show RD _ _ _ _ _ _ _ (dm 23 1023) _ _); refine RD.tk 10 (dm 23 6424576) (dm 23 2047) (hK := ?_)) | ((with_reducible show RD _ _ _ _ _ _ _ (dm 23 2047) _ _); refine RD.tk 11 (dm 23 6422528) (dm 23 4095) (hK := ?_)) | ((with_reducible show RD _ _ _ _ _ _ _ (dm 23 4095) _ _); refine RD.tk 12 (dm 23 6422528) (dm 23 8191) (hK := ?_)) | ((with_reducible show RD _ _ _ _ _ _ _ (dm 23 8191) _ _); refine RD.tk 13 (dm 23 6537216) (dm 23 16383) (hK := ?_)) | ((with_reducible show RD _ _ _ _ _ _ _ (dm 23 16383) _ _); refine RD.tk 14 (dm 23 6520832) (dm 23 32767) (hK := ?_)) | ((with_reducible show RD _ _ _ _ _ _ _ (dm 23 32767) _ _); refine RD.tk 15 (dm 23 6488064) (dm 23 65535) (hK := ?_)) | ((with_reducible show RD _ _ _ _ _ _ _ (dm 23 65535) _ _); refine RD.tk 16 (dm 23 6422528) (dm 23 131071) (hK := ?_)) | ((with_reducible show RD _ _ _ _ _ _ _ (dm 23 131071) _ _); refine RD.tk 18 (dm 23 7340032) (dm 23 393215) (hK := ?_)) | ((with_reducible show RD _ _ _ _ _ _ _ (dm 23 393215) _ _); refine RD.tk 19 (dm 23 7340032) (dm 23 917503) (hK := ?_)) | ((with_reducible show RD _ _ _ _ _ _ _ (dm 23 917503) _ _); refine RD.tk 20 (dm 23 6291456) (dm 23 1966079) (hK := ?_)) | ((with_reducible show RD _ _ _ _ _ _ _ (dm 23 1966079) _ _); refine RD.a1 17 ?_) | ((with_reducible show RD _ _ _ _ _ _ _ (dm 23 2097151) _ _); refine RD.a1 21 ?_) | ((with_reducible show RD _ _ _ _ _ _ _ (dm 23 4194303) _ _); refine RD.a1 22 ?_) | ((with_reducible show RD _ _ _ _ _ _ 0 _ _ _); refine RD.done (by kernel_rfl) ?_)) | ((with_reducible show RO _ _ 26 _ _ _ _ _ _ _ _); first | ((with_reducible show RO _ _ _ _ _ _ _ (dm 23 1966079) 17 _ _); (refine RO.cL (dm 23 2097151) Try.call168 ?_; apply Exists.intro; apply And.intro; (focus ((repeat (first | exact LVs.nil | (apply LVs.sl; (with_reducible repeat (first | exact Has.head | apply Has.tail)); exact inferInstance; exact rfl) | apply LVs.agg | apply LVs.refl)); done)); refine ⟨_, hcomp, (by intro r H h; first | (obtain ⟨rfl, rfl⟩ := h; exact ⟨inferInstance, inferInstance⟩) | (obtain ⟨_, rfl, rfl⟩ := h; exact ⟨inferInstance, inferInstance⟩) | (obtain ⟨_, _, rfl, rfl⟩ := h; exact ⟨inferInstance, inferInstance⟩) | (obtain ⟨_, _, rfl, rfl, _⟩ := h; exact ⟨inferInstance, inferInstance⟩)), ?_⟩; rintro _ _ ⟨s155, rfl, rfl⟩; refine RD.app1 ?_; refine RD.frzI ?_)) | ((with_reducible show RO _ _ _ _ _ _ _ (dm 23 2097151) 21 _ _); (refine RO.h (dm 23 4194303) ?_; show RH _ _ _ ⟨_, _, _, _, _, _⟩ _ _ _ _)) | ((with_reducible show RO _ _ _ _ _ _ _ (dm 23 4194303) 22 _ _); (refine RO.h (dm 23 8388607) ?_; show RH _ _ _ ⟨_, _, _, _, _, _⟩ _ _ _ _))) | ((with_reducible show RH _ _ _ ⟨_, .call ⟨.value (.func 166), _, _⟩, _, _, _, _⟩ _ _ _ _); refine RH.cW Try.call166 ?_; refine ⟨_, _, _, (by repeat (first | exact Pick.nil | (apply Pick.cons; (with_reducible repeat (first | exact Rem.head | apply Rem.tail))))), hadd, ?_⟩; rintro _ _ ⟨u1, u2, pl3, tries3, o3, rfl, rfl, hsp3⟩; refine RL.nm ?_) | ((with_reducible show RH _ _ _ _ _ _ _ _); first | refine RH.val (hK := ?_) | refine RH.upd (hK := ?_)) | (with_reducible first | refine Run.seq ?_ | refine Run.region ?_ | refine Run.block ?_ | refine Run.skip ?_ | refine Run.exit ?_) | (with_reducible show Run _ _ (.cond _ _ _) _ _ _; first | refine Run.condD rfl (fun h => ?_) (fun h => ?_) | refine Run.condND rfl (fun h => ?_) (fun h => ?_)) | (with_reducible first | refine seqN (K := Run _ _ _ _) ?_ | refine seqE ?_ | refine blockN ?_ | refine blockE ?_))
                  all_goals first
                    | (exfalso; omega)
                    | (with_reducible refine seqN ?_
                       exact ⟨(i + 1, u1, u2, pl3, tries3, o3, S3), ⟨by dsimp only; omega, hsp3, hi3, by dsimp only; omega, hri⟩, by dsimp only; omega, Ent.of (by dsimp only; exact slA) (by dsimp only; exact chA)⟩)
                    | trace_state
          · rw [hi9, Nat.sub_self] at hri
            repeat' (first | (with_reducible first | refine RL.done ?_ | refine RL.app0 ?_) | (with_reducible refine RL.wanted ?_ ?_; exact rfl) | ((with_reducible show RH _ _ _ ⟨_, .call ⟨.value (.func 99), _, _⟩, _, _, _, _⟩ _ _ _ _); refine RH.cP Try.call99 ?_; refine ⟨_, hpow, ?_⟩; rintro _ _ ⟨rfl, rfl⟩) | ((with_reducible show RH _ _ _ _ _ _ _ _); refine RH.val (hK := ?_)) | (with_reducible show RL _ _ _ (_ :: _) _ _ _; first | refine RL.guardYes rfl rfl rfl rfl ?_ | refine RL.guardNoS rfl rfl rfl rfl rfl rfl ?_ | refine RL.splitD rfl rfl rfl (fun h => ?_) (fun h => ?_)) | (with_reducible first | refine Run.seq ?_ | refine Run.region ?_ | refine Run.block ?_ | refine Run.skip ?_ | refine Run.exit ?_) | (with_reducible show Run _ _ (.cond _ _ _) _ _ _; first | refine Run.condT rfl ?_ | refine Run.condF rfl ?_) | (with_reducible first | refine seqN (K := Run _ _ _ _) ?_ | refine seqE ?_ | refine blockN ?_ | refine blockE ?_))
            all_goals first
              | (exfalso; omega)
              | (with_reducible refine seqN ?_
                 exact ⟨(j + 1, v1, v2, pl, tries, false, (c2, tr2, 2)), ⟨by dsimp only; omega, hsp, hQ, hK2, hri⟩, by dsimp only; omega, Ent.of (by dsimp only; exact slA) (by dsimp only; exact chA)⟩)
              | trace_state
        · have hend := hsp.atEnd hQ.st hgo2
          rw [foldQ_end (fun _ _ h => stepQ_end h) _ _ hgo2] at hri
          rcases hend with hpl | rfl
          · repeat' (first | (with_reducible first | refine RL.done ?_ | refine RL.app0 ?_) | (with_reducible refine RL.wanted ?_ ?_; exact rfl) | ((with_reducible show RH _ _ _ ⟨_, .call ⟨.value (.func 99), _, _⟩, _, _, _, _⟩ _ _ _ _); refine RH.cP Try.call99 ?_; refine ⟨_, hpow, ?_⟩; rintro _ _ ⟨rfl, rfl⟩) | ((with_reducible show RH _ _ _ _ _ _ _ _); refine RH.val (hK := ?_)) | (with_reducible show RL _ _ _ (_ :: _) _ _ _; first | refine RL.guardYes rfl rfl rfl rfl ?_ | refine RL.guardNoS rfl rfl rfl rfl rfl rfl ?_ | refine RL.splitD rfl rfl rfl (fun h => ?_) (fun h => ?_)) | (with_reducible first | refine Run.seq ?_ | refine Run.region ?_ | refine Run.block ?_ | refine Run.skip ?_ | refine Run.exit ?_) | (with_reducible show Run _ _ (.cond _ _ _) _ _ _; first | refine Run.condF rfl ?_ | refine Run.condNB rfl (fun h => ?_) (fun h => ?_)) | (with_reducible first | refine seqN (K := Run _ _ _ _) ?_ | refine seqE ?_ | refine blockN ?_ | refine blockE ?_))
            all_goals first
              | (exfalso; omega)
              | (with_reducible refine seqN ?_
                 exact ⟨(j + 1, v1, v2, pl, tries, o, S2), ⟨by dsimp only; omega, hsp, hQ, hK2, hri⟩, by dsimp only; omega, Ent.of (by dsimp only; exact slA) (by dsimp only; exact chA)⟩)
              | trace_state
          · repeat' (first | (with_reducible first | refine RL.done ?_ | refine RL.app0 ?_) | (with_reducible refine RL.wanted ?_ ?_; exact rfl) | ((with_reducible show RH _ _ _ ⟨_, .call ⟨.value (.func 99), _, _⟩, _, _, _, _⟩ _ _ _ _); refine RH.cP Try.call99 ?_; refine ⟨_, hpow, ?_⟩; rintro _ _ ⟨rfl, rfl⟩) | ((with_reducible show RH _ _ _ _ _ _ _ _); refine RH.val (hK := ?_)) | (with_reducible show RL _ _ _ (_ :: _) _ _ _; first | refine RL.guardYes rfl rfl rfl rfl ?_ | refine RL.guardNoS rfl rfl rfl rfl rfl rfl ?_ | refine RL.splitD rfl rfl rfl (fun h => ?_) (fun h => ?_)) | (with_reducible first | refine Run.seq ?_ | refine Run.region ?_ | refine Run.exit ?_) | (with_reducible show Run _ _ (.cond _ _ _) _ _ _; refine Run.condF rfl ?_) | (with_reducible first | refine seqN (K := Run _ _ _ _) ?_ | refine seqE ?_ | refine blockN ?_ | refine blockE ?_))
            all_goals first
              | (exfalso; omega)
              | (with_reducible refine seqN ?_
                 exact ⟨(j + 1, v1, v2, pl, tries, true, S2), ⟨by dsimp only; omega, hsp, hQ, hK2, hri⟩, by dsimp only; omega, Ent.of (by dsimp only; exact slA) (by dsimp only; exact chA)⟩)
              | trace_state
      · rw [List.drop_of_length_le (by simp; omega)] at hrj
        subst hrj
        repeat' (first | (with_reducible refine RL.done ?_) | (with_reducible refine RL.wanted ?_ ?_; exact rfl) | ((with_reducible show RH _ _ _ _ _ _ _ _); refine RH.val (hK := ?_)) | (with_reducible first | refine Run.seq ?_ | refine Run.region ?_ | refine Run.block ?_ | refine Run.skip ?_ | refine Run.exit ?_) | (with_reducible show Run _ _ (.cond _ _ _) _ _ _; refine Run.condD rfl (fun h => ?_) (fun h => ?_)) | (with_reducible first | refine seqN (K := Run _ _ _ _) ?_ | refine seqE ?_ | refine blockN ?_ | refine blockE ?_))
        all_goals first
          | (exfalso; omega)
          | (with_reducible refine seqN ?_
             exact ⟨(K, v1, v2, pl, tries, o, S1, f), ⟨hsp, hQ, by dsimp only; omega, hrun, by dsimp only; omega⟩, by dsimp only; omega, Ent.of (by dsimp only; exact slA) (by dsimp only; exact chA)⟩)
          | trace_state
    · have hRe : S = R := by rw [← hrun]; exact (findQ_end hgo).symm
      subst hRe
      by_cases hst : S.2.2 = 2
      · obtain ⟨hpl, rfl, htr⟩ := hsp.at2 hst
        have hlt : ¬ b < S.1.1.length := fun h => hgo ⟨hst, h⟩
        repeat' (first | (with_reducible refine RL.done ?_) | (with_reducible refine RL.wanted ?_ ?_; exact rfl) | ((with_reducible show RH _ _ _ _ _ _ _ _); first | refine RH.val (hK := ?_) | refine RH.upd (hK := ?_)) | (with_reducible show RL _ _ _ (_ :: _) _ _ _; first | refine RL.guardYes rfl rfl rfl rfl ?_ | refine RL.guardNoS rfl rfl rfl rfl rfl rfl ?_ | refine RL.splitD rfl rfl rfl (fun h => ?_) (fun h => ?_)) | (with_reducible first | refine Run.seq ?_ | refine Run.region ?_ | refine Run.block ?_ | refine Run.skip ?_ | refine Run.exit ?_ | refine Run.ret ?_) | (with_reducible show Run _ _ (.cond _ _ _) _ _ _; first | refine Run.condT rfl ?_ | refine Run.condF rfl ?_) | (with_reducible first | refine seqN (K := Run _ _ _ _) ?_ | refine seqE ?_ | refine blockE ?_))
        all_goals first
          | (exfalso; omega)
          | (refine ⟨eA, _, [hsl tRow (vsv v1) S.1.1, hsl (tPair tInt (tS tInt)) (vsv v2) S.1.2], resA, ?_, ?_⟩
             · exact SEnt.ch chA
             · exact ⟨v1, v2, pl, tries, false, rfl, rfl, hsp⟩)
          | trace_state
      · rcases hsp.atEnd hQ.st hst with hpl | rfl
        · repeat' (first | (with_reducible refine RL.done ?_) | (with_reducible refine RL.wanted ?_ ?_; exact rfl) | ((with_reducible show RH _ _ _ _ _ _ _ _); first | refine RH.val (hK := ?_) | refine RH.upd (hK := ?_)) | (with_reducible show RL _ _ _ (_ :: _) _ _ _; first | refine RL.guardYes rfl rfl rfl rfl ?_ | refine RL.guardNoS rfl rfl rfl rfl rfl rfl ?_ | refine RL.splitD rfl rfl rfl (fun h => ?_) (fun h => ?_)) | (with_reducible first | refine Run.seq ?_ | refine Run.region ?_ | refine Run.block ?_ | refine Run.skip ?_ | refine Run.exit ?_ | refine Run.ret ?_) | (with_reducible show Run _ _ (.cond _ _ _) _ _ _; first | refine Run.condF rfl ?_ | refine Run.condNB rfl (fun h => ?_) (fun h => ?_)) | (with_reducible first | refine seqN (K := Run _ _ _ _) ?_ | refine seqE ?_ | refine blockE ?_))
          all_goals first
            | (exfalso; omega)
            | (refine ⟨eA, _, [hsl tRow (vsv v1) S.1.1, hsl (tPair tInt (tS tInt)) (vsv v2) S.1.2], resA, ?_, ?_⟩
               · exact SEnt.ch chA
               · exact ⟨v1, v2, pl, tries, o, rfl, rfl, hsp⟩)
            | trace_state
        · repeat' (first | (with_reducible refine RL.done ?_) | (with_reducible refine RL.wanted ?_ ?_; exact rfl) | ((with_reducible show RH _ _ _ _ _ _ _ _); first | refine RH.val (hK := ?_) | refine RH.upd (hK := ?_)) | (with_reducible show RL _ _ _ (_ :: _) _ _ _; first | refine RL.guardYes rfl rfl rfl rfl ?_ | refine RL.guardNoS rfl rfl rfl rfl rfl rfl ?_ | refine RL.splitD rfl rfl rfl (fun h => ?_) (fun h => ?_)) | (with_reducible first | refine Run.seq ?_ | refine Run.region ?_ | refine Run.exit ?_ | refine Run.ret ?_) | (with_reducible show Run _ _ (.cond _ _ _) _ _ _; refine Run.condF rfl ?_) | (with_reducible first | refine seqN (K := Run _ _ _ _) ?_ | refine seqE ?_ | refine blockE ?_))
          all_goals first
            | (exfalso; omega)
            | (refine ⟨eA, _, [hsl tRow (vsv v1) S.1.1, hsl (tPair tInt (tS tInt)) (vsv v2) S.1.2], resA, ?_, ?_⟩
               · exact SEnt.ch chA
               · exact ⟨v1, v2, pl, tries, true, rfl, rfl, hsp⟩)
            | trace_state
end Go.Proofs.Ytiifdhdhjioefaa

/- The search for a term that obeys a condition, the reference: spec.FindTerm. Proved for this program; conditions: lengths below 2^62. -/
namespace Go.Proofs.Ytiifdhdhjioefaa
open Go Go.Proofs
set_option linter.unusedVariables false
theorem addQ_stp {G : List Int → Bool} {s : QS} {t : List Int} {sp : Stp} (h : StpOk s.1) (hs : sp.2.length ≤ 3) : StpOk (addQ G s t sp).1 := by
  unfold addQ
  split
  · split
    · exact h
    · split
      · exact h
      · intro x hx
        rcases List.mem_append.1 hx with h1 | h1
        · exact h x h1
        · rw [List.mem_singleton.1 h1]; exact hs
  · exact h
theorem foldQ_stp {α : Type} {g : QS → α → QS} : ∀ (l : List α), (∀ s x, x ∈ l → StpOk s.1 → StpOk (g s x).1) → ∀ s : QS, StpOk s.1 → StpOk (l.foldl g s).1
  | [], _, s, h => h
  | x :: l, hg, s, h => foldQ_stp l (fun s y hy => hg s y (by simp [hy])) _ (hg s x (by simp) h)
theorem rndQ_stp {G : List Int → Bool} {n : Int} {size : Nat} {os : List (Int × List Int)} (hops : ∀ f ∈ os, opB n f.1 f.2 = true) (K b : Nat) (s : QS) (h : StpOk s.1) : StpOk (rndQ G n size os K b s).1 := by
  refine foldQ_stp _ (fun s p hp h => ?_) s h
  refine foldQ_stp _ (fun s i hi h => ?_) s h
  have hp2 : p.1 ∈ os := List.fst_mem_of_mem_zipIdx hp
  have ho := hops _ hp2
  simp only [opB, Bool.and_eq_true, decide_eq_true_eq] at ho
  unfold stepQ
  split
  · split
    · split
      · exact h
      · exact addQ_stp h (by rw [lowd_length]; omega)
    · exact h
  · exact h
theorem findQ_stp {G : List Int → Bool} {n : Int} {size : Nat} {os : List (Int × List Int)} (hops : ∀ f ∈ os, opB n f.1 f.2 = true) : ∀ (f : Nat) (s : QS) (b : Nat), StpOk s.1 → StpOk (findQ G n size os f s b).1
  | 0, s, b, h => h
  | f + 1, s, b, h => by
    rw [findQ]
    split
    · exact findQ_stp hops f _ _ (rndQ_stp hops _ _ _ h)
    · exact h
theorem initQ_stp {G : List Int → Bool} {F : List (List Int)} : ∀ p, StpOk (initQ G F p).1
  | 0 => fun s h => by cases h
  | p + 1 => addQ_stp (initQ_stp p) (by simp)
theorem findQ_inv {G : List Int → Bool} {n : Int} {size : Nat} {os : List (Int × List Int)} (ha : algB n os = true) (hsz : size ≤ 1048576) : ∀ (f : Nat) (s : QS) (b : Nat), QInv n size s → QInv n size (findQ G n size os f s b)
  | 0, s, b, h => h
  | f + 1, s, b, h => by
    rw [findQ]
    split
    · rename_i h2
      exact findQ_inv ha hsz f _ _ (rndQ_inv (G := G) (b := b) ha hsz h (by omega) (Nat.le_refl _)).1
    · exact h
theorem seaV_ok {N k0 size : Nat} {os : List (Int × List Int)} {rs : List (List Int × List Int)} (hk : MalOk N k0 size os rs) : QInv (N : Int) (rowS N rs) (seaV N k0 size os rs) ∧ StpOk (seaV N k0 size os rs).1 := by
  have hFi := fstR_inv (k := k0) (size := size) hk.n1 rs
  have hsz := rowS_le hk.n4 hk.cond
  obtain ⟨g1, g8, g4, hops⟩ := algB_at hk.alg
  exact ⟨findQ_inv hk.alg (by omega) _ _ _ (initQ_inv hFi.row _ _ (Nat.le_refl _)), findQ_stp hops _ _ _ (initQ_stp _)⟩
end Go.Proofs.Ytiifdhdhjioefaa
