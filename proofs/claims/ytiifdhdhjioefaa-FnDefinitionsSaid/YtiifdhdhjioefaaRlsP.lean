/- Projections of relations: spec.l8At, l13Project, ProjectRelation, ReverseRelation and impl's: the same answers. Proved for this program; conditions: lengths below 2^42. -/
import Derived.Test.YtiifdhdhjioefaaRelOf
import Derived.Test.YtiifdhdhjioefaaRowFn
import Derived.Test.YtiifdhdhjioefaaSpan
namespace Go.Proofs.Ytiifdhdhjioefaa
open Go Go.Proofs
set_option linter.unusedVariables false
theorem comp_len (f g : List Int) : (comp f g).length = f.length := by simp [comp]
theorem elB_mem {a : Int} {p : List Int} (h : elB a p = true) : ∀ v ∈ p, 0 ≤ v ∧ v < a := fun v hv => by
  rw [elB, List.all_eq_true] at h
  simpa using h v hv
set_option maxRecDepth 10000 in
theorem l8At_c (t p : List Int) (hp : p.length ≤ 1048576) (hv : ∀ v ∈ p, 0 ≤ v ∧ v < t.length) :
    Spec Try.prog 102 [vsl 1 (fun x : Int => [vint x]) t, vsl 1 (fun x : Int => [vint x]) p] [] (fun r S' => ∃ s : Sv, r = vlit (vsv s) ∧ S' = [hsl tInt (vsv s) (comp p t)]) := by
  have hcl := comp_len p t
  refine Spec.of_run2 (n := 25) Try.func102 rfl Try.results102 Try.ntmps102 rfl ?_
  repeat' (first | (with_reducible refine RL.done ?_) | (with_reducible refine RL.wanted ?_ ?_; exact rfl) | ((with_reducible show RH _ _ _ ⟨some 7, .buildSlice _ _ _, _, _, _, _⟩ _ _ _ _); refine RH.eff rfl rfl (EOpS.e (EOpS.slit (fun x : Int => [vint x]) _ (fun _ _ => rfl) (by repeat (first | exact Elts.nil | (apply Elts.cons; exact rfl; exact CellsOf.one))) rfl rfl)) ?_; rintro _ _ ⟨b7, rfl, rfl⟩) | ((with_reducible show RH _ _ _ _ _ _ _ _); refine RH.val (hK := ?_)) | (with_reducible first | refine Run.seq ?_ | refine Run.region ?_ | refine Run.block ?_) | (with_reducible refine seqN (K := Run _ _ _ _) ?_))
  refine Run.sent (T := [hsl tInt (vsv (some ⟨b7, 0, none⟩, 0, 0)) []]) (SEnt.packNil tInt rfl) ?_
  refine Run.loop (α := Nat × Sv) (fun z => [(0, vsl 1 (fun x : Int => [vint x]) t), (1, vsl 1 (fun x : Int => [vint x]) p), (5, vlit (vsv z.2)), (6, vint (z.1 : Int))]) (fun z => [hsl tInt (vsv z.2) ((comp p t).take z.1)]) (fun z => z.1 ≤ p.length) (fun z => p.length - z.1) (0, (some ⟨b7, 0, none⟩, 0, 0)) (Nat.zero_le _) (Ent.of (by dsimp only; exact slA) (.cons .head (by simp) chA)) ?_
  rintro ⟨j, s⟩ hj
  (try dsimp only at hj ⊢)
  have hle2 : ((comp p t).take j).length = j := by rw [List.length_take]; omega
  rcases Nat.lt_or_eq_of_le hj with h9 | h9
  · have hx := hv _ (List.getElem_mem h9)
    have hd : (comp p t).take (j + 1) = (comp p t).take j ++ [t[(p[j]).toNat]'(by omega)] := by
      rw [List.take_add_one, List.getElem?_eq_getElem (by omega)]
      simp [comp, List.getD, show (p[j]).toNat < t.length by omega]
    repeat' (first | (with_reducible refine RL.done ?_) | (with_reducible refine RL.wanted ?_ ?_; exact rfl) | ((with_reducible show RH _ _ _ ⟨some 22, .buildSlice _ _ _, _, _, _, _⟩ _ _ _ _); refine RH.eff rfl rfl (EOpS.e (EOpS.slit (fun x : Int => [vint x]) _ (fun _ _ => rfl) (by repeat (first | exact Elts.nil | (apply Elts.cons; exact rfl; exact CellsOf.one))) rfl rfl)) ?_; rintro _ _ ⟨b22, rfl, rfl⟩) | ((with_reducible show RH _ _ _ ⟨_, .call ⟨.builtin .append, _, _⟩, _, _, _, _⟩ _ _ _ _); (refine RH.appI rfl rfl rfl (by repeat (first | exact Pick.nil | (apply Pick.cons; (with_reducible repeat (first | exact Rem.head | apply Rem.tail))))) (by first | omega | (simp; omega)) (by first | omega | (simp; omega)) ?_); rintro _ _ ⟨s, rfl, rfl⟩) | ((with_reducible show RH _ _ _ _ _ _ _ _); refine RH.val (hK := ?_)) | (with_reducible first | refine Run.seq ?_ | refine Run.region ?_ | refine Run.block ?_ | refine Run.skip ?_ | refine Run.exit ?_ | refine Run.ret ?_) | (with_reducible show Run _ _ (.cond _ _ _) _ _ _; refine Run.condD rfl (fun h => ?_) (fun h => ?_)) | (with_reducible first | refine seqN (K := Run _ _ _ _) ?_ | refine seqE ?_ | refine blockN ?_ | refine blockE ?_))
    all_goals first
      | (exfalso; omega)
      | (with_reducible refine seqN ?_
         exact ⟨(j + 1, _), by dsimp only; omega, by dsimp only; omega, Ent.of (by dsimp only; exact slA) (by dsimp only; rw [hd]; exact chA)⟩)
  · subst h9
    repeat' (first | (with_reducible refine RL.done ?_) | (with_reducible refine RL.wanted ?_ ?_; exact rfl) | ((with_reducible show RH _ _ _ ⟨some 22, .buildSlice _ _ _, _, _, _, _⟩ _ _ _ _); refine RH.eff rfl rfl (EOpS.e (EOpS.slit (fun x : Int => [vint x]) _ (fun _ _ => rfl) (by repeat (first | exact Elts.nil | (apply Elts.cons; exact rfl; exact CellsOf.one))) rfl rfl)) ?_; rintro _ _ ⟨b22, rfl, rfl⟩) | ((with_reducible show RH _ _ _ _ _ _ _ _); refine RH.val (hK := ?_)) | (with_reducible first | refine Run.seq ?_ | refine Run.region ?_ | refine Run.block ?_ | refine Run.skip ?_ | refine Run.exit ?_ | refine Run.ret ?_) | (with_reducible show Run _ _ (.cond _ _ _) _ _ _; refine Run.condD rfl (fun h => ?_) (fun h => ?_)) | (with_reducible first | refine seqN (K := Run _ _ _ _) ?_ | refine seqE ?_ | refine blockE ?_))
    all_goals first
      | (exfalso; omega)
      | (refine ⟨eA, _, [hsl tInt (vsv s) (comp p t)], resA, ?_, ?_⟩
         · exact SEnt.ch (.cons .head (by rw [← hcl, List.take_length]) .nil)
         · exact ⟨s, rfl, rfl⟩)
theorem rel_many {n a : Int} {xs : List (List Int)} (h : relOk n a xs = true) : xs.length ≤ 512 := by
  obtain ⟨hn, hB⟩ := relOk_rel' h
  have ha := relB_ar hB
  rw [relB, Bool.and_eq_true] at hB
  have h1 := relB_len (by omega) (by omega) hB.2
  have h2 := pw_512' n hn.1 hn.2 a.toNat (by omega)
  omega
end Go.Proofs.Ytiifdhdhjioefaa
/- The composition of two relations in plain terms: the list that the reference makes and the set of the list that the program makes are the same. No program in sight. -/
namespace Go.Proofs.Ytiifdhdhjioefaa
open Go Go.Proofs
set_option linter.unusedVariables false
end Go.Proofs.Ytiifdhdhjioefaa
/- The composition of two relations: spec.l13Compose, ComposeRelations, impl.composeRelations, ComposeRelations: the same answer. Proved for this program; conditions: lengths below 2^42. -/
namespace Go.Proofs.Ytiifdhdhjioefaa
open Go Go.Proofs
set_option linter.unusedVariables false
end Go.Proofs.Ytiifdhdhjioefaa
/- A relation with an element fixed at a place: impl.without, spec.FixPlace, impl.FixPlace: the same answer. Proved for this program; conditions: lengths below 2^42. -/
namespace Go.Proofs.Ytiifdhdhjioefaa
open Go Go.Proofs
set_option linter.unusedVariables false
end Go.Proofs.Ytiifdhdhjioefaa
/- What the laws of relations say, in plain terms: sets of tuples, their composition, reverse, meet, and the tuples with an element fixed. No program in sight. -/
namespace Go.Proofs.Ytiifdhdhjioefaa
open Go Go.Proofs
set_option linter.unusedVariables false
theorem relOk_set {n : Int} {k : Nat} {ts : List (List Int)} (hn : 1 ≤ n ∧ n ≤ 8) (hk : 1 ≤ k ∧ k ≤ 3) (ht : ∀ u ∈ ts, u.length = k ∧ elB n u = true) : relOk n (k : Int) (putF ts) = true := by
  obtain ⟨h1, h2⟩ := putF_str (fun u hu => (ht u hu).1)
  have hu : ∀ u ∈ putF ts, u.length = k ∧ elB n u = true := fun u hu => ht u ((h2 u).1 hu)
  have hs := str_sorted h1 (fun u h => (hu u h).1)
  simp only [relOk, relB, Bool.and_eq_true, decide_eq_true_eq, List.all_eq_true, List.mem_range]
  refine ⟨hn, by omega, fun j hj => ?_⟩
  obtain ⟨h3, h4⟩ := hu _ (List.getElem_mem hj)
  rw [tupAt, getD_at _ [] j hj, decide_eq_true (by omega), h4, Bool.true_and, Bool.true_and, Bool.or_eq_true]
  by_cases h0 : j = 0
  · exact .inl (by simp [h0])
  · right
    rw [getD_at _ [] (j - 1) (by omega)]
    exact hs (j - 1) j (by omega) hj
theorem rel_facts {n a : Int} {xs : List (List Int)} (h : relOk n a xs = true) : (1 ≤ n ∧ n ≤ 8) ∧ (1 ≤ a ∧ a ≤ 3) ∧ (∀ t ∈ xs, (t.length : Int) = a ∧ elB n t = true) ∧ Str xs := by
  obtain ⟨hn, hB⟩ := relOk_rel' h
  have hl := relB_len2 hB
  have hs := relB_sorted hB
  refine ⟨hn, relB_ar hB, fun t ht => ⟨hl t ht, relB_el hB t ht⟩, ?_⟩
  rw [Str, List.pairwise_iff_getElem]
  intro i j hi hj hij
  have h1 := hl _ (List.getElem_mem hi)
  have h2 := hl _ (List.getElem_mem hj)
  exact (less_cmp (by omega)).1 (hs i j hij hj)
end Go.Proofs.Ytiifdhdhjioefaa
