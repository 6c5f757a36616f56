/- Retractions: spec.Retractions, impl.Retractions: the same answer. Proved for this program; conditions: lengths below 2^62. -/
import Derived.Test.YtodlpdedldhebaaHomAll
import Derived.Test.YtodlpdedldhebaaRowFn
import Derived.Test.YtodlpdedldhebaaHrow
namespace Go.Proofs.Ytodlpdedldhebaa
open Go Go.Proofs
set_option linter.unusedVariables false
/-- an owned list is frozen, for a slot that holds it -/
theorem Run.frzSl {P : Program} {n : Nat} {x : Code} {Q : Post} {φ : Slots} {α : Type} {t : TR α} {r : α → List VP} [Frz t r] {v : Value} {xs : List α} {S S' : List HP} (d : Nat) (hd : φ.get d = Option.some (vlit v)) (hr : Rem S (hsl t v xs) S') (h : Run P n x Q ((d, vsl t.k r xs) :: φ) S') : Run P n x Q φ S :=
  Run.weaken (fun c n a hf hs => by
    obtain ⟨gs, f, hs2⟩ := hs.rem hr
    have hf2 : FH c n ((d, vlit v) :: φ) a := ⟨hf.size, hf.defers, fun t' q hq => by
      simp only [Slots.get] at hq
      cases hb : Nat.beq d t' with
      | true => obtain rfl := Nat.eq_of_beq_eq_true hb; simp only [hb, cond_true, Option.some.injEq] at hq; subst hq; exact hf.slot d _ hd
      | false => simp only [hb, cond_false] at hq; exact hf.slot t' q hq⟩
    exact (Ent.frzOne (h := hsl t v xs) fun c f hp hF => ownS.frz (t := t) hp hF) c n a hf2 ⟨_, hs2⟩) h
/-- rows of one's own are lent -/
theorem Spec.lendh {P : Program} {f : FuncId} {args qs : List VP} {S : List HP} {R : VP → List HP → Prop} (ps : PS) (h : Spec P f qs [] R)
    (hq : ∀ c vs, Args c args vs → (∀ p ∈ ps, (vsl 1 (fun x : Int => [vint x]) p.2).p c (vsv p.1)) → Args c qs vs) (hR : ∀ r H, R r H → NF r ∧ NFHs H) :
    Spec P f args (hrows ps :: S) (fun r S' => ∃ H, R r H ∧ S' = H ++ hrows ps :: S) := by
  refine Spec.lend (B := [hrows ps]) (S := S) h ?_ hR
  intro c vs fs ha hB hF
  cases hB with
  | cons h1 hB =>
    cases hB
    obtain ⟨fss, rfl, h3⟩ := h1
    exact hq c vs ha (rows_are h3 fun b hb => hF b (by simpa using hb))
theorem Spec.lendh2 {P : Program} {f : FuncId} {args qs : List VP} {S : List HP} {R : VP → List HP → Prop} (ps : PS) {v : Value} {y : List Int} (h : Spec P f (vsl 1 (fun x : Int => [vint x]) y :: qs) [] R)
    (hq : ∀ c vs, Args c args vs → (∀ p ∈ ps, (vsl 1 (fun x : Int => [vint x]) p.2).p c (vsv p.1)) → Args c qs vs) (hR : ∀ r H, R r H → NF r ∧ NFHs H) :
    Spec P f (vlit v :: args) (hsl tInt v y :: hrows ps :: S) (fun r S' => ∃ H, R r H ∧ S' = H ++ hsl tInt v y :: hrows ps :: S) := by
  refine Spec.lend (B := [hsl tInt v y, hrows ps]) (S := S) h ?_ hR
  intro c vs fs ha hB hF
  cases ha with
  | cons p1 ha =>
    cases p1
    cases hB with
    | cons h0 hB =>
      cases hB with
      | cons h1 hB =>
        cases hB
        obtain ⟨fss, rfl, h3⟩ := h1
        exact .cons (ownS.frz (t := tInt) h0 fun b hb => hF b (by simp [hb])) (hq c _ ha (rows_are h3 fun b hb => hF b (by simp only [List.flatten_cons, List.mem_append]; exact .inr (.inl hb))))
theorem ps_at {ps : PS} {V : List Sv} {X : List (List Int)} (hV : ps.map Prod.fst = V) (hX : ps.map Prod.snd = X) {i : Nat} (hi : i < V.length) (hj : i < X.length) {c : Ctx} (h : ∀ p ∈ ps, (vsl 1 (fun x : Int => [vint x]) p.2).p c (vsv p.1)) : (vsl 1 (fun x : Int => [vint x]) X[i]).p c (vsv V[i]) := by
  subst hV; subst hX
  have h1 : i < ps.length := by simpa using hi
  simpa using h _ (List.getElem_mem h1)
def retB (f : List Int) : Bool := decide (comp f f = f)
def retS (ps : PS) (m : Nat) : PS := (ps.take m).filter fun p => retB p.2
def retV (o : Option (List (List Int))) : Option (List (List Int)) := o.map fun L => L.filter retB
theorem retS_le (ps : PS) (m : Nat) : (retS ps m).length ≤ ps.length := Nat.le_trans (List.length_filter_le _ _) (by rw [List.length_take]; omega)
theorem retS_yes {ps : PS} {V : List Sv} {X : List (List Int)} (hV : ps.map Prod.fst = V) (hX : ps.map Prod.snd = X) {m : Nat} (h : m < V.length) (hj : m < X.length) (e : comp X[m] X[m] = X[m]) : (retS ps (m + 1)).map Prod.fst = (retS ps m).map Prod.fst ++ [V[m]] := by
  subst hV; subst hX
  have h1 : m < ps.length := by simpa using h
  simp only [List.getElem_map] at e
  rw [retS, List.take_add_one, List.getElem?_eq_getElem h1, List.filter_append, Option.toList_some, List.filter_cons_of_pos (by simpa [retB] using e), List.map_append]
  simp [retS]
theorem retS_no {ps : PS} {X : List (List Int)} (hX : ps.map Prod.snd = X) {m : Nat} (hj : m < X.length) (e : ¬ comp X[m] X[m] = X[m]) : retS ps (m + 1) = retS ps m := by
  subst hX
  have h1 : m < ps.length := by simpa using hj
  simp only [List.getElem_map] at e
  rw [retS, List.take_add_one, List.getElem?_eq_getElem h1, List.filter_append, Option.toList_some, List.filter_cons_of_neg (by simpa [retB] using e), List.filter_nil, List.append_nil]
  rfl
theorem retS_all {ps : PS} {X : List (List Int)} (hX : ps.map Prod.snd = X) : (retS ps ps.length).map Prod.snd = X.filter retB := by
  subst hX
  rw [retS, List.take_length, List.filter_map]; rfl
theorem retS_sub (ps : PS) : (retS ps ps.length).Sublist ps := by
  rw [retS, List.take_length]; exact List.filter_sublist
/-- each row maps a set into itself -/
def SelfMaps (X : List (List Int)) : Prop := ∀ f ∈ X, f.length ≤ 1048576 ∧ ∀ v ∈ f, 0 ≤ v ∧ v < f.length
theorem rows_self {n : Int} {L : List (List Int)} (hn : n ≤ 8) (h : ∀ x ∈ L, (x.length : Int) = n ∧ ∀ y ∈ x, 0 ≤ y ∧ y < n) : SelfMaps L := fun f hf => by
  obtain ⟨h1, h2⟩ := h f hf
  exact ⟨by omega, fun v hv => by have := h2 v hv; omega⟩
theorem compH_c (ps : PS) (V : List Sv) (X : List (List Int)) (hV : ps.map Prod.fst = V) (hX : ps.map Prod.snd = X) (i : Nat) (hi : i < V.length) (hj : i < X.length) (hm : SelfMaps X) :
    Spec Try.prog 73 [vlit (vsv V[i]), vlit (vsv V[i])] [hrows ps] (fun r S' => ∃ s : Sv, r = vlit (vsv s) ∧ S' = [hsl tInt (vsv s) (comp X[i] X[i]), hrows ps]) := by
  obtain ⟨h1, h2⟩ := hm _ (List.getElem_mem hj)
  refine (Spec.lendh ps (compose_c X[i] X[i] h1 h2) ?_ ?_).mono ?_
  · intro c vs ha hp
    have hx := ps_at hV hX hi hj hp
    cases ha with
    | cons p1 ha =>
      cases ha with
      | cons p2 ha =>
        cases ha; cases p1; cases p2
        exact .cons hx (.cons hx .nil)
  · rintro r H ⟨s', rfl, rfl⟩
    exact ⟨inferInstance, inferInstance⟩
  · rintro r S' ⟨H, ⟨s', rfl, rfl⟩, rfl⟩
    exact ⟨s', rfl, rfl⟩
theorem sameH_c (ps : PS) (V : List Sv) (X : List (List Int)) (hV : ps.map Prod.fst = V) (hX : ps.map Prod.snd = X) (i : Nat) (hi : i < V.length) (hj : i < X.length) (s : Sv) (y : List Int) (hy : y.length ≤ 1048576) :
    Spec Try.prog 81 [vlit (vsv s), vlit (vsv V[i])] [hsl tInt (vsv s) y, hrows ps] (fun r S' => r = vbool (decide (y = X[i])) ∧ S' = [hsl tInt (vsv s) y, hrows ps]) := by
  refine (Spec.lendh2 ps (sameList_c y X[i] (by omega)) ?_ ?_).mono ?_
  · intro c vs ha hp
    have hx := ps_at hV hX hi hj hp
    cases ha with
    | cons p1 ha =>
      cases ha; cases p1
      exact .cons hx .nil
  · rintro r H ⟨rfl, rfl⟩
    exact ⟨inferInstance, inferInstance⟩
  · rintro r S' ⟨H, ⟨rfl, rfl⟩, rfl⟩
    exact ⟨rfl, rfl⟩
set_option maxRecDepth 10000 in
set_option maxHeartbeats 2000000 in
theorem implRetr_c (n : Int) (os : List (Int × List Int)) (hl : os.length ≤ 4611686018427387904) (ho : OpsLen os) :
    Spec Try.prog 40 [vagg [vint n, vsl 2 (fun y : Int × (List Int) => [vint y.1, vsl 1 (fun x : Int => [vint x]) y.2]) os]] [] (LstRes (retV (allV n os n os))) := by
  refine Spec.of_run2 (n := 35) Try.func40 rfl Try.results40 Try.ntmps40 rfl ?_
  cases hA : allV n os n os with
  | none =>
    repeat' (first | (with_reducible first | refine RL.done ?_ | refine RL.app0 ?_ | refine RL.app1 ?_ | refine RL.app2 ?_ | refine RL.app3 ?_ | refine RL.app4 ?_) | (with_reducible refine RL.wanted ?_ ?_; exact rfl) | ((with_reducible show RH _ _ _ ⟨some 1, .box _ _, _, _, _, _⟩ _ _ _ _); first | (refine RH.boxAgg rfl rfl ?_; rintro _ _ ⟨b1, rfl, rfl⟩) | (refine RH.boxOne rfl rfl ?_; rintro _ _ ⟨b1, rfl, rfl⟩)) | ((with_reducible show RH _ _ _ ⟨some 16, .buildSlice _ _ _, _, _, _, _⟩ _ _ _ _); first | (refine RH.eff rfl rfl (EOpS.e (EOpS.slitV (by ((repeat (first | exact Elts.nil | apply Elts.one1 rfl | apply Elts.agg2 rfl)); done)) (by simp) rfl rfl)) ?_; rintro _ _ ⟨b16, rfl, rfl⟩) | (refine RH.eff rfl rfl (EOpS.e (EOpS.slit (fun t : List Int => [vsl 1 (fun x : Int => [vint x]) t]) _ (fun _ _ => rfl) (by ((repeat (first | exact Elts.nil | (apply Elts.cons; exact rfl; exact CellsOf.one))); done)) rfl rfl)) ?_; rintro _ _ ⟨b16, rfl, rfl⟩)) | ((with_reducible show RH _ _ _ ⟨some 17, .buildSlice _ _ _, _, _, _, _⟩ _ _ _ _); first | (refine RH.eff rfl rfl (EOpS.e (EOpS.slitV (by ((repeat (first | exact Elts.nil | apply Elts.one1 rfl | apply Elts.agg2 rfl)); done)) (by simp) rfl rfl)) ?_; rintro _ _ ⟨b17, rfl, rfl⟩) | (refine RH.eff rfl rfl (EOpS.e (EOpS.slit (fun t : List Int => [vsl 1 (fun x : Int => [vint x]) t]) _ (fun _ _ => rfl) (by ((repeat (first | exact Elts.nil | (apply Elts.cons; exact rfl; exact CellsOf.one))); done)) rfl rfl)) ?_; rintro _ _ ⟨b17, rfl, rfl⟩)) | ((with_reducible show RH _ _ _ ⟨some 31, .buildSlice _ _ _, _, _, _, _⟩ _ _ _ _); first | (refine RH.eff rfl rfl (EOpS.e (EOpS.slitV (by ((repeat (first | exact Elts.nil | apply Elts.one1 rfl | apply Elts.agg2 rfl)); done)) (by simp) rfl rfl)) ?_; rintro _ _ ⟨b31, rfl, rfl⟩) | (refine RH.eff rfl rfl (EOpS.e (EOpS.slit (fun t : List Int => [vsl 1 (fun x : Int => [vint x]) t]) _ (fun _ _ => rfl) (by ((repeat (first | exact Elts.nil | (apply Elts.cons; exact rfl; exact CellsOf.one))); done)) rfl rfl)) ?_; rintro _ _ ⟨b31, rfl, rfl⟩)) | ((with_reducible show RH _ _ _ ⟨_, .call ⟨.value (.func 80), _, _⟩, _, _, _, _⟩ _ _ _ _); refine RH.cP Try.call80 ?_; refine ⟨_, implEndo_c n os hl ho, ?_⟩; rintro _ _ ⟨s4, rfl, rfl⟩) | ((with_reducible show RH _ _ _ _ _ _ _ _); first | refine RH.val (hK := ?_) | refine RH.upd (hK := ?_) | (refine RH.lr (h := ?_); intro u)) | (with_reducible first | refine Run.seq ?_ | refine Run.region ?_ | refine Run.block ?_ | refine Run.skip ?_ | refine Run.exit ?_ | refine Run.ret ?_) | (with_reducible show Run _ _ (.cond _ _ _) _ _ _; first | refine Run.condT rfl ?_ | refine Run.condF rfl ?_ | refine Run.condD rfl (fun h => ?_) (fun h => ?_) | refine Run.condND rfl (fun h => ?_) (fun h => ?_) | refine Run.condNB rfl (fun h => ?_) (fun h => ?_) | refine Run.cond rfl (fun h => ?_) (fun h => ?_)) | (with_reducible first | refine seqN (K := Run _ _ _ _) ?_ | refine seqE ?_ | refine seqR ?_ | refine blockN ?_ | refine blockR ?_ | refine blockE ?_) | (with_reducible refine blockX ?_ ?_; exact rfl))
    all_goals first
      | (exfalso; simp_all; done)
      | (refine ⟨eA, _, [hsl (tS tInt) (vsv (some ⟨b16, 0, none⟩, 0, 0)) []], resA, ?_, ?_⟩
         · exact (SEnt.pick (.cons .head .nil)).trans ((SEnt.packNil (tS tInt) rfl).trans (SEnt.ch (.cons .head rfl .nil)))
         · exact ⟨_, rfl, rfl⟩)
  | some L =>
    repeat' (first | (with_reducible first | refine RL.done ?_ | refine RL.app0 ?_ | refine RL.app1 ?_ | refine RL.app2 ?_ | refine RL.app3 ?_ | refine RL.app4 ?_) | (with_reducible refine RL.wanted ?_ ?_; exact rfl) | ((with_reducible show RH _ _ _ ⟨some 1, .box _ _, _, _, _, _⟩ _ _ _ _); first | (refine RH.boxAgg rfl rfl ?_; rintro _ _ ⟨b1, rfl, rfl⟩) | (refine RH.boxOne rfl rfl ?_; rintro _ _ ⟨b1, rfl, rfl⟩)) | ((with_reducible show RH _ _ _ ⟨some 16, .buildSlice _ _ _, _, _, _, _⟩ _ _ _ _); first | (refine RH.eff rfl rfl (EOpS.e (EOpS.slitV (by ((repeat (first | exact Elts.nil | apply Elts.one1 rfl | apply Elts.agg2 rfl)); done)) (by simp) rfl rfl)) ?_; rintro _ _ ⟨b16, rfl, rfl⟩) | (refine RH.eff rfl rfl (EOpS.e (EOpS.slit (fun t : List Int => [vsl 1 (fun x : Int => [vint x]) t]) _ (fun _ _ => rfl) (by ((repeat (first | exact Elts.nil | (apply Elts.cons; exact rfl; exact CellsOf.one))); done)) rfl rfl)) ?_; rintro _ _ ⟨b16, rfl, rfl⟩)) | ((with_reducible show RH _ _ _ ⟨some 17, .buildSlice _ _ _, _, _, _, _⟩ _ _ _ _); first | (refine RH.eff rfl rfl (EOpS.e (EOpS.slitV (by ((repeat (first | exact Elts.nil | apply Elts.one1 rfl | apply Elts.agg2 rfl)); done)) (by simp) rfl rfl)) ?_; rintro _ _ ⟨b17, rfl, rfl⟩) | (refine RH.eff rfl rfl (EOpS.e (EOpS.slit (fun t : List Int => [vsl 1 (fun x : Int => [vint x]) t]) _ (fun _ _ => rfl) (by ((repeat (first | exact Elts.nil | (apply Elts.cons; exact rfl; exact CellsOf.one))); done)) rfl rfl)) ?_; rintro _ _ ⟨b17, rfl, rfl⟩)) | ((with_reducible show RH _ _ _ ⟨some 31, .buildSlice _ _ _, _, _, _, _⟩ _ _ _ _); first | (refine RH.eff rfl rfl (EOpS.e (EOpS.slitV (by ((repeat (first | exact Elts.nil | apply Elts.one1 rfl | apply Elts.agg2 rfl)); done)) (by simp) rfl rfl)) ?_; rintro _ _ ⟨b31, rfl, rfl⟩) | (refine RH.eff rfl rfl (EOpS.e (EOpS.slit (fun t : List Int => [vsl 1 (fun x : Int => [vint x]) t]) _ (fun _ _ => rfl) (by ((repeat (first | exact Elts.nil | (apply Elts.cons; exact rfl; exact CellsOf.one))); done)) rfl rfl)) ?_; rintro _ _ ⟨b31, rfl, rfl⟩)) | ((with_reducible show RH _ _ _ ⟨_, .call ⟨.value (.func 80), _, _⟩, _, _, _, _⟩ _ _ _ _); refine RH.cP Try.call80 ?_; refine ⟨_, implEndo_c n os hl ho, ?_⟩; rintro _ _ ⟨s4, rfl, rfl⟩) | ((with_reducible show RH _ _ _ _ _ _ _ _); first | refine RH.val (hK := ?_) | refine RH.upd (hK := ?_) | (refine RH.lr (h := ?_); intro u)) | (with_reducible first | refine Run.seq ?_ | refine Run.region ?_ | refine Run.block ?_ | refine Run.skip ?_ | refine Run.exit ?_ | refine Run.ret ?_) | (with_reducible show Run _ _ (.cond _ _ _) _ _ _; first | refine Run.condT rfl ?_ | refine Run.condF rfl ?_ | refine Run.condD rfl (fun h => ?_) (fun h => ?_) | refine Run.condND rfl (fun h => ?_) (fun h => ?_) | refine Run.condNB rfl (fun h => ?_) (fun h => ?_) | refine Run.cond rfl (fun h => ?_) (fun h => ?_)) | (with_reducible first | refine seqN (K := Run _ _ _ _) ?_ | refine seqE ?_ | refine seqR ?_ | refine blockN ?_ | refine blockR ?_ | refine blockE ?_) | (with_reducible refine blockX ?_ ?_; exact rfl))
    all_goals first
      | (exfalso; simp_all; done)
      | skip
    obtain ⟨hL1, hn8, hrw⟩ := allV_small hA
    have e : (allV n os n os).getD [] = L := by rw [hA]; rfl
    have hmaps := rows_self hn8 hrw
    refine Run.unrows (xs := (allV n os n os).getD []) (by ((with_reducible repeat (first | exact Rem.head | apply Rem.tail)); done)) ?_
    intro ps hX
    rw [e] at hX
    obtain ⟨V, hV⟩ : ∃ V, ps.map Prod.fst = V := ⟨_, rfl⟩
    have hvl : V.length = L.length := by rw [← hV, ← hX]; simp
    have hpl : ps.length = L.length := by rw [← hX]; simp
    have hel : ((allV n os n os).getD []).length = L.length := by rw [e]
    generalize ((allV n os n os).getD []) = L0 at *
    rw [hV]
    refine Run.frzSl (t := tSv) 18 rfl .head ?_
    refine Run.sent (T := [hsl tSv (vsv (Option.some ⟨b17, 0, none⟩, 0, 0)) [], hrows ps]) ((SEnt.pick (.cons (.tail .head) (.cons .head .nil))).trans ((SEnt.packNil tSv rfl).trans (SEnt.ch (.cons .head rfl (.cons .head rfl .nil))))) ?_
    refine Run.loop (α := Nat × Sv) (fun z => [(6, vlit (vsv z.2)), (18, vsl 1 (fun s : Sv => [vlit (vsv s)]) V), (19, vint (L0.length : Int)), (20, vint (z.1 : Int))]) (fun z => [hsl tSv (vsv z.2) ((retS ps z.1).map Prod.fst), hrows ps]) (fun z => z.1 ≤ V.length) (fun z => V.length - z.1) (0, (Option.some ⟨b17, 0, none⟩, 0, 0)) (Nat.zero_le _) (Ent.of slA (.cons .head (by simp [retS]) chA)) ?_
    rintro ⟨m, s⟩ hm
    dsimp only at hm ⊢
    have hrl := retS_le ps m
    have hlen : ((retS ps m).map Prod.fst).length = (retS ps m).length := by simp
    rcases Nat.lt_or_eq_of_le hm with h9 | h9
    · have hcl : (comp (L[m]'(by omega)) (L[m]'(by omega))).length ≤ 1048576 := by
        rw [comp, List.length_map]; exact (hmaps _ (List.getElem_mem _)).1
      repeat' (first | (with_reducible first | refine RL.done ?_ | refine RL.app0 ?_ | refine RL.app1 ?_ | refine RL.app2 ?_ | refine RL.app3 ?_ | refine RL.app4 ?_) | (with_reducible refine RL.wanted ?_ ?_; exact rfl) | ((with_reducible show RH _ _ _ ⟨some 1, .box _ _, _, _, _, _⟩ _ _ _ _); first | (refine RH.boxAgg rfl rfl ?_; rintro _ _ ⟨b1, rfl, rfl⟩) | (refine RH.boxOne rfl rfl ?_; rintro _ _ ⟨b1, rfl, rfl⟩)) | ((with_reducible show RH _ _ _ ⟨some 16, .buildSlice _ _ _, _, _, _, _⟩ _ _ _ _); first | (refine RH.eff rfl rfl (EOpS.e (EOpS.slitV (by ((repeat (first | exact Elts.nil | apply Elts.one1 rfl | apply Elts.agg2 rfl)); done)) (by simp) rfl rfl)) ?_; rintro _ _ ⟨b16, rfl, rfl⟩) | (refine RH.eff rfl rfl (EOpS.e (EOpS.slit (fun t : List Int => [vsl 1 (fun x : Int => [vint x]) t]) _ (fun _ _ => rfl) (by ((repeat (first | exact Elts.nil | (apply Elts.cons; exact rfl; exact CellsOf.one))); done)) rfl rfl)) ?_; rintro _ _ ⟨b16, rfl, rfl⟩)) | ((with_reducible show RH _ _ _ ⟨some 17, .buildSlice _ _ _, _, _, _, _⟩ _ _ _ _); first | (refine RH.eff rfl rfl (EOpS.e (EOpS.slitV (by ((repeat (first | exact Elts.nil | apply Elts.one1 rfl | apply Elts.agg2 rfl)); done)) (by simp) rfl rfl)) ?_; rintro _ _ ⟨b17, rfl, rfl⟩) | (refine RH.eff rfl rfl (EOpS.e (EOpS.slit (fun t : List Int => [vsl 1 (fun x : Int => [vint x]) t]) _ (fun _ _ => rfl) (by ((repeat (first | exact Elts.nil | (apply Elts.cons; exact rfl; exact CellsOf.one))); done)) rfl rfl)) ?_; rintro _ _ ⟨b17, rfl, rfl⟩)) | ((with_reducible show RH _ _ _ ⟨some 31, .buildSlice _ _ _, _, _, _, _⟩ _ _ _ _); first | (refine RH.eff rfl rfl (EOpS.e (EOpS.slitV (by ((repeat (first | exact Elts.nil | apply Elts.one1 rfl | apply Elts.agg2 rfl)); done)) (by simp) rfl rfl)) ?_; rintro _ _ ⟨b31, rfl, rfl⟩) | (refine RH.eff rfl rfl (EOpS.e (EOpS.slit (fun t : List Int => [vsl 1 (fun x : Int => [vint x]) t]) _ (fun _ _ => rfl) (by ((repeat (first | exact Elts.nil | (apply Elts.cons; exact rfl; exact CellsOf.one))); done)) rfl rfl)) ?_; rintro _ _ ⟨b31, rfl, rfl⟩)) | ((with_reducible show RH _ _ _ ⟨_, .call ⟨.value (.func 73), _, _⟩, _, _, _, _⟩ _ _ _ _); refine RH.cW Try.call73 ?_; refine ⟨_, _, _, (by repeat (first | exact Pick.nil | (apply Pick.cons; (with_reducible repeat (first | exact Rem.head | apply Rem.tail))))), compH_c ps V L hV hX _ (by omega) (by omega) hmaps, ?_⟩; rintro _ _ ⟨s5, rfl, rfl⟩; refine RL.nm ?_) | ((with_reducible show RH _ _ _ ⟨_, .call ⟨.value (.func 81), _, _⟩, _, _, _, _⟩ _ _ _ _); refine RH.cW Try.call81 ?_; refine ⟨_, _, _, (by repeat (first | exact Pick.nil | (apply Pick.cons; (with_reducible repeat (first | exact Rem.head | apply Rem.tail))))), sameH_c ps V L hV hX _ (by omega) (by omega) s5 _ hcl, ?_⟩; rintro _ _ ⟨rfl, rfl⟩; refine RL.nm ?_) | ((with_reducible show RH _ _ _ ⟨_, .call ⟨.builtin .append, _, _⟩, _, _, _, _⟩ _ _ _ _); (first | refine RH.appI rfl rfl rfl (by repeat (first | exact Pick.nil | (apply Pick.cons; (with_reducible repeat (first | exact Rem.head | apply Rem.tail))))) (by first | omega | (simp; omega)) (by first | omega | (simp; omega)) ?_ | refine RH.appR rfl rfl rfl (by repeat (first | exact Pick.nil | (apply Pick.cons; (with_reducible repeat (first | exact Rem.head | apply Rem.tail))))) (by first | omega | (simp; omega)) (by first | omega | (simp; omega)) ?_ | refine RH.appRI rfl rfl rfl (by repeat (first | exact Pick.nil | (apply Pick.cons; (with_reducible repeat (first | exact Rem.head | apply Rem.tail))))) (by first | exact rfl | (simp; done)) (by first | omega | (simp; omega)) (by first | omega | (simp; omega)) ?_ | refine RH.appF rfl rfl rfl (by repeat (first | exact Pick.nil | (apply Pick.cons; (with_reducible repeat (first | exact Rem.head | apply Rem.tail))))) (by first | omega | (simp; omega)) (by first | omega | (simp; omega)) ?_ | refine RH.appSv rfl rfl rfl (by repeat (first | exact Pick.nil | (apply Pick.cons; (with_reducible repeat (first | exact Rem.head | apply Rem.tail))))) (by first | omega | (simp; omega)) (by first | omega | (simp; omega)) ?_ | refine RH.appPI rfl rfl rfl (by repeat (first | exact Pick.nil | (apply Pick.cons; (with_reducible repeat (first | exact Rem.head | apply Rem.tail))))) (by first | omega | (simp; omega)) (by first | omega | (simp; omega)) ?_); rintro _ _ ⟨s, rfl, rfl⟩) | ((with_reducible show RH _ _ _ _ _ _ _ _); first | refine RH.val (hK := ?_) | refine RH.upd (hK := ?_) | (refine RH.lr (h := ?_); intro u)) | (with_reducible first | refine Run.seq ?_ | refine Run.region ?_ | refine Run.block ?_ | refine Run.skip ?_ | refine Run.exit ?_ | refine Run.ret ?_) | (with_reducible show Run _ _ (.cond _ _ _) _ _ _; first | refine Run.condT rfl ?_ | refine Run.condF rfl ?_ | refine Run.condD rfl (fun h => ?_) (fun h => ?_) | refine Run.condND rfl (fun h => ?_) (fun h => ?_) | refine Run.condNB rfl (fun h => ?_) (fun h => ?_) | refine Run.cond rfl (fun h => ?_) (fun h => ?_)) | (with_reducible first | refine seqN (K := Run _ _ _ _) ?_ | refine seqE ?_ | refine seqR ?_ | refine blockN ?_ | refine blockR ?_ | refine blockE ?_) | (with_reducible refine blockX ?_ ?_; exact rfl))
      all_goals first
        | (exfalso; omega)
        | (have hd := retS_yes hV hX h9 (by omega) (by assumption)
           with_reducible refine seqN ?_
           exact ⟨(m + 1, _), by dsimp only; omega, by dsimp only; omega, Ent.of (by dsimp only; exact slA) (by dsimp only; rw [hd]; exact chA)⟩)
        | (have hd := retS_no hX (m := m) (by omega) (by assumption)
           with_reducible refine seqN ?_
           exact ⟨(m + 1, s), by dsimp only; omega, by dsimp only; omega, Ent.of (by dsimp only; exact slA) (by dsimp only; rw [hd]; exact chA)⟩)
    · have h8 : m = ps.length := by omega
      subst h8
      repeat' (first | (with_reducible first | refine RL.done ?_ | refine RL.app0 ?_ | refine RL.app1 ?_ | refine RL.app2 ?_ | refine RL.app3 ?_ | refine RL.app4 ?_) | (with_reducible refine RL.wanted ?_ ?_; exact rfl) | ((with_reducible show RH _ _ _ ⟨some 1, .box _ _, _, _, _, _⟩ _ _ _ _); first | (refine RH.boxAgg rfl rfl ?_; rintro _ _ ⟨b1, rfl, rfl⟩) | (refine RH.boxOne rfl rfl ?_; rintro _ _ ⟨b1, rfl, rfl⟩)) | ((with_reducible show RH _ _ _ ⟨some 16, .buildSlice _ _ _, _, _, _, _⟩ _ _ _ _); first | (refine RH.eff rfl rfl (EOpS.e (EOpS.slitV (by ((repeat (first | exact Elts.nil | apply Elts.one1 rfl | apply Elts.agg2 rfl)); done)) (by simp) rfl rfl)) ?_; rintro _ _ ⟨b16, rfl, rfl⟩) | (refine RH.eff rfl rfl (EOpS.e (EOpS.slit (fun t : List Int => [vsl 1 (fun x : Int => [vint x]) t]) _ (fun _ _ => rfl) (by ((repeat (first | exact Elts.nil | (apply Elts.cons; exact rfl; exact CellsOf.one))); done)) rfl rfl)) ?_; rintro _ _ ⟨b16, rfl, rfl⟩)) | ((with_reducible show RH _ _ _ ⟨some 17, .buildSlice _ _ _, _, _, _, _⟩ _ _ _ _); first | (refine RH.eff rfl rfl (EOpS.e (EOpS.slitV (by ((repeat (first | exact Elts.nil | apply Elts.one1 rfl | apply Elts.agg2 rfl)); done)) (by simp) rfl rfl)) ?_; rintro _ _ ⟨b17, rfl, rfl⟩) | (refine RH.eff rfl rfl (EOpS.e (EOpS.slit (fun t : List Int => [vsl 1 (fun x : Int => [vint x]) t]) _ (fun _ _ => rfl) (by ((repeat (first | exact Elts.nil | (apply Elts.cons; exact rfl; exact CellsOf.one))); done)) rfl rfl)) ?_; rintro _ _ ⟨b17, rfl, rfl⟩)) | ((with_reducible show RH _ _ _ ⟨some 31, .buildSlice _ _ _, _, _, _, _⟩ _ _ _ _); first | (refine RH.eff rfl rfl (EOpS.e (EOpS.slitV (by ((repeat (first | exact Elts.nil | apply Elts.one1 rfl | apply Elts.agg2 rfl)); done)) (by simp) rfl rfl)) ?_; rintro _ _ ⟨b31, rfl, rfl⟩) | (refine RH.eff rfl rfl (EOpS.e (EOpS.slit (fun t : List Int => [vsl 1 (fun x : Int => [vint x]) t]) _ (fun _ _ => rfl) (by ((repeat (first | exact Elts.nil | (apply Elts.cons; exact rfl; exact CellsOf.one))); done)) rfl rfl)) ?_; rintro _ _ ⟨b31, rfl, rfl⟩)) | ((with_reducible show RH _ _ _ _ _ _ _ _); first | refine RH.val (hK := ?_) | refine RH.upd (hK := ?_) | (refine RH.lr (h := ?_); intro u)) | (with_reducible first | refine Run.seq ?_ | refine Run.region ?_ | refine Run.block ?_ | refine Run.skip ?_ | refine Run.exit ?_ | refine Run.ret ?_) | (with_reducible show Run _ _ (.cond _ _ _) _ _ _; first | refine Run.condT rfl ?_ | refine Run.condF rfl ?_ | refine Run.condD rfl (fun h => ?_) (fun h => ?_) | refine Run.condND rfl (fun h => ?_) (fun h => ?_) | refine Run.condNB rfl (fun h => ?_) (fun h => ?_) | refine Run.cond rfl (fun h => ?_) (fun h => ?_)) | (with_reducible first | refine seqN (K := Run _ _ _ _) ?_ | refine seqE ?_ | refine seqR ?_ | refine blockN ?_ | refine blockR ?_ | refine blockE ?_) | (with_reducible refine blockX ?_ ?_; exact rfl))
      all_goals first
        | (exfalso; omega)
        | (refine ⟨eA, _, [hsl (tS tInt) (vsv s) (L.filter retB)], resA, ?_, ?_⟩
           · rw [← retS_all hX]
             exact (SEnt.pick (.cons (.tail .head) (.cons .head .nil))).trans ((SEnt.subrows (retS_sub ps)).trans ((SEnt.pick (.cons (.tail .head) (.cons .head .nil))).trans (SEnt.packrows.trans (SEnt.ch (.cons .head rfl .nil)))))
           · exact ⟨s, rfl, rfl⟩)
theorem imH_c (ps : PS) (V : List Sv) (X : List (List Int)) (hV : ps.map Prod.fst = V) (hX : ps.map Prod.snd = X) (i : Nat) (hi : i < V.length) (hj : i < X.length) (hm : SelfMaps X) :
    Spec Try.prog 78 [vlit (vsv V[i]), vlit (vsv V[i])] [hrows ps] (fun r S' => ∃ s : Sv, r = vlit (vsv s) ∧ S' = [hsl tInt (vsv s) (comp X[i] X[i]), hrows ps]) := by
  obtain ⟨h1, h2⟩ := hm _ (List.getElem_mem hj)
  refine (Spec.lendh ps (l7Images_c X[i] X[i] (fun x hx => by have := h2 x hx; omega) h1) ?_ ?_).mono ?_
  · intro c vs ha hp
    have hx := ps_at hV hX hi hj hp
    cases ha with
    | cons p1 ha =>
      cases ha with
      | cons p2 ha =>
        cases ha; cases p1; cases p2
        exact .cons hx (.cons hx .nil)
  · rintro r H ⟨s', rfl, rfl⟩
    exact ⟨inferInstance, inferInstance⟩
  · rintro r S' ⟨H, ⟨s', rfl, rfl⟩, rfl⟩
    exact ⟨s', rfl, rfl⟩
theorem saH_c (ps : PS) (V : List Sv) (X : List (List Int)) (hV : ps.map Prod.fst = V) (hX : ps.map Prod.snd = X) (i : Nat) (hi : i < V.length) (hj : i < X.length) (s : Sv) (y : List Int) (hy : y.length ≤ 1048576) :
    Spec Try.prog 77 [vlit (vsv s), vlit (vsv V[i])] [hsl tInt (vsv s) y, hrows ps] (fun r S' => r = vbool (decide (y = X[i])) ∧ S' = [hsl tInt (vsv s) y, hrows ps]) := by
  refine (Spec.lendh2 ps (l1Same_c y X[i] (by omega)) ?_ ?_).mono ?_
  · intro c vs ha hp
    have hx := ps_at hV hX hi hj hp
    cases ha with
    | cons p1 ha =>
      cases ha; cases p1
      exact .cons hx .nil
  · rintro r H ⟨rfl, rfl⟩
    exact ⟨inferInstance, inferInstance⟩
  · rintro r S' ⟨H, ⟨rfl, rfl⟩, rfl⟩
    exact ⟨rfl, rfl⟩
set_option maxRecDepth 10000 in
set_option maxHeartbeats 2000000 in
theorem specRetr_c (n : Int) (os : List (Int × List Int)) (hl : os.length ≤ 4611686018427387904) (ho : OpsLen os) :
    Spec Try.prog 38 [vagg [vint n, vsl 2 (fun y : Int × (List Int) => [vint y.1, vsl 1 (fun x : Int => [vint x]) y.2]) os]] [] (LstRes (retV (allV n os n os))) := by
  refine Spec.of_run2 (n := 46) Try.func38 rfl Try.results38 Try.ntmps38 rfl ?_
  cases hA : allV n os n os with
  | none =>
    repeat' (first | (with_reducible first | refine RL.done ?_ | refine RL.app0 ?_ | refine RL.app1 ?_ | refine RL.app2 ?_ | refine RL.app3 ?_ | refine RL.app4 ?_ | refine RD.app0 ?_ | refine RD.app1 ?_ | refine RD.app2 ?_) | (with_reducible refine RL.wanted ?_ ?_; exact rfl) | ((with_reducible show RH _ _ _ ⟨some 1, .box _ _, _, _, _, _⟩ _ _ _ _); first | (refine RH.boxAgg rfl rfl ?_; rintro _ _ ⟨b1, rfl, rfl⟩) | (refine RH.boxOne rfl rfl ?_; rintro _ _ ⟨b1, rfl, rfl⟩)) | ((with_reducible show RH _ _ _ ⟨some 8, .buildSlice _ _ _, _, _, _, _⟩ _ _ _ _); first | (refine RH.eff rfl rfl (EOpS.e (EOpS.slitV (by ((repeat (first | exact Elts.nil | apply Elts.one1 rfl | apply Elts.agg2 rfl)); done)) (by simp) rfl rfl)) ?_; rintro _ _ ⟨b8, rfl, rfl⟩) | (refine RH.eff rfl rfl (EOpS.e (EOpS.slit (fun t : List Int => [vsl 1 (fun x : Int => [vint x]) t]) _ (fun _ _ => rfl) (by ((repeat (first | exact Elts.nil | (apply Elts.cons; exact rfl; exact CellsOf.one))); done)) rfl rfl)) ?_; rintro _ _ ⟨b8, rfl, rfl⟩)) | ((with_reducible show RH _ _ _ ⟨some 43, .buildSlice _ _ _, _, _, _, _⟩ _ _ _ _); first | (refine RH.eff rfl rfl (EOpS.e (EOpS.slitV (by ((repeat (first | exact Elts.nil | apply Elts.one1 rfl | apply Elts.agg2 rfl)); done)) (by simp) rfl rfl)) ?_; rintro _ _ ⟨b43, rfl, rfl⟩) | (refine RH.eff rfl rfl (EOpS.e (EOpS.slit (fun t : List Int => [vsl 1 (fun x : Int => [vint x]) t]) _ (fun _ _ => rfl) (by ((repeat (first | exact Elts.nil | (apply Elts.cons; exact rfl; exact CellsOf.one))); done)) rfl rfl)) ?_; rintro _ _ ⟨b43, rfl, rfl⟩)) | ((with_reducible show RH _ _ _ ⟨_, .call ⟨.value (.func 76), _, _⟩, _, _, _, _⟩ _ _ _ _); refine RH.cP Try.call76 ?_; refine ⟨_, specAllHoms_c n os n os hl ho hl ho, ?_⟩; rintro _ _ ⟨s4, rfl, rfl⟩) | ((with_reducible show RH _ _ _ _ _ _ _ _); first | refine RH.val (hK := ?_) | refine RH.upd (hK := ?_) | (refine RH.lr (h := ?_); intro u)) | (with_reducible first | refine Run.seq ?_ | refine Run.region ?_ | refine Run.block ?_ | refine Run.skip ?_ | refine Run.exit ?_ | refine Run.ret ?_) | (with_reducible show Run _ _ (.cond _ _ _) _ _ _; first | refine Run.condT rfl ?_ | refine Run.condF rfl ?_ | refine Run.condD rfl (fun h => ?_) (fun h => ?_) | refine Run.condND rfl (fun h => ?_) (fun h => ?_) | refine Run.condNB rfl (fun h => ?_) (fun h => ?_) | refine Run.cond rfl (fun h => ?_) (fun h => ?_)) | (with_reducible first | refine seqN (K := Run _ _ _ _) ?_ | refine seqE ?_ | refine seqR ?_ | refine blockN ?_ | refine blockR ?_ | refine blockE ?_) | (with_reducible refine blockX ?_ ?_; exact rfl))
    all_goals first
      | (exfalso; simp_all; done)
      | (refine ⟨eA, _, [hsl (tS tInt) (vsv (some ⟨b8, 0, none⟩, 0, 0)) []], resA, ?_, ?_⟩
         · exact (SEnt.pick (B := [harr b8 1 (List.map vlit) [] (0 * 1)]) (by repeat (first | exact Pick.nil | (apply Pick.cons; (with_reducible repeat (first | exact Rem.head | apply Rem.tail)))))).trans ((SEnt.packNil (tS tInt) rfl).trans (SEnt.ch (.cons .head rfl .nil)))
         · exact ⟨_, rfl, rfl⟩)
  | some L =>
    repeat' (first | (with_reducible first | refine RL.done ?_ | refine RL.app0 ?_ | refine RL.app1 ?_ | refine RL.app2 ?_ | refine RL.app3 ?_ | refine RL.app4 ?_ | refine RD.app0 ?_ | refine RD.app1 ?_ | refine RD.app2 ?_) | (with_reducible refine RL.wanted ?_ ?_; exact rfl) | ((with_reducible show RH _ _ _ ⟨some 1, .box _ _, _, _, _, _⟩ _ _ _ _); first | (refine RH.boxAgg rfl rfl ?_; rintro _ _ ⟨b1, rfl, rfl⟩) | (refine RH.boxOne rfl rfl ?_; rintro _ _ ⟨b1, rfl, rfl⟩)) | ((with_reducible show RH _ _ _ ⟨some 8, .buildSlice _ _ _, _, _, _, _⟩ _ _ _ _); first | (refine RH.eff rfl rfl (EOpS.e (EOpS.slitV (by ((repeat (first | exact Elts.nil | apply Elts.one1 rfl | apply Elts.agg2 rfl)); done)) (by simp) rfl rfl)) ?_; rintro _ _ ⟨b8, rfl, rfl⟩) | (refine RH.eff rfl rfl (EOpS.e (EOpS.slit (fun t : List Int => [vsl 1 (fun x : Int => [vint x]) t]) _ (fun _ _ => rfl) (by ((repeat (first | exact Elts.nil | (apply Elts.cons; exact rfl; exact CellsOf.one))); done)) rfl rfl)) ?_; rintro _ _ ⟨b8, rfl, rfl⟩)) | ((with_reducible show RH _ _ _ ⟨some 43, .buildSlice _ _ _, _, _, _, _⟩ _ _ _ _); first | (refine RH.eff rfl rfl (EOpS.e (EOpS.slitV (by ((repeat (first | exact Elts.nil | apply Elts.one1 rfl | apply Elts.agg2 rfl)); done)) (by simp) rfl rfl)) ?_; rintro _ _ ⟨b43, rfl, rfl⟩) | (refine RH.eff rfl rfl (EOpS.e (EOpS.slit (fun t : List Int => [vsl 1 (fun x : Int => [vint x]) t]) _ (fun _ _ => rfl) (by ((repeat (first | exact Elts.nil | (apply Elts.cons; exact rfl; exact CellsOf.one))); done)) rfl rfl)) ?_; rintro _ _ ⟨b43, rfl, rfl⟩)) | ((with_reducible show RH _ _ _ ⟨_, .call ⟨.value (.func 76), _, _⟩, _, _, _, _⟩ _ _ _ _); refine RH.cP Try.call76 ?_; refine ⟨_, specAllHoms_c n os n os hl ho hl ho, ?_⟩; rintro _ _ ⟨s4, rfl, rfl⟩) | ((with_reducible show RH _ _ _ _ _ _ _ _); first | refine RH.val (hK := ?_) | refine RH.upd (hK := ?_) | (refine RH.lr (h := ?_); intro u)) | (with_reducible first | refine Run.seq ?_ | refine Run.region ?_ | refine Run.block ?_ | refine Run.skip ?_ | refine Run.exit ?_ | refine Run.ret ?_) | (with_reducible show Run _ _ (.cond _ _ _) _ _ _; first | refine Run.condT rfl ?_ | refine Run.condF rfl ?_ | refine Run.condD rfl (fun h => ?_) (fun h => ?_) | refine Run.condND rfl (fun h => ?_) (fun h => ?_) | refine Run.condNB rfl (fun h => ?_) (fun h => ?_) | refine Run.cond rfl (fun h => ?_) (fun h => ?_)) | (with_reducible first | refine seqN (K := Run _ _ _ _) ?_ | refine seqE ?_ | refine seqR ?_ | refine blockN ?_ | refine blockR ?_ | refine blockE ?_) | (with_reducible refine blockX ?_ ?_; exact rfl))
    all_goals first
      | (exfalso; simp_all; done)
      | skip
    obtain ⟨hL1, hn8, hrw⟩ := allV_small hA
    have e : (allV n os n os).getD [] = L := by rw [hA]; rfl
    have hmaps := rows_self hn8 hrw
    refine Run.unrows (xs := (allV n os n os).getD []) (by ((with_reducible repeat (first | exact Rem.head | apply Rem.tail)); done)) ?_
    intro ps hX
    rw [e] at hX
    obtain ⟨V, hV⟩ : ∃ V, ps.map Prod.fst = V := ⟨_, rfl⟩
    have hvl : V.length = L.length := by rw [← hV, ← hX]; simp
    have hpl : ps.length = L.length := by rw [← hX]; simp
    have hel : ((allV n os n os).getD []).length = L.length := by rw [e]
    generalize ((allV n os n os).getD []) = L0 at *
    rw [hV]
    refine Run.frzSl (t := tSv) 5 rfl .head ?_
    refine Run.sent (T := [hsl tSv (vsv (Option.some ⟨b8, 0, none⟩, 0, 0)) [], hrows ps]) ((SEnt.pick (B := [harr b8 1 (List.map vlit) [] (0 * 1), hrows ps]) (by repeat (first | exact Pick.nil | (apply Pick.cons; (with_reducible repeat (first | exact Rem.head | apply Rem.tail)))))).trans ((SEnt.packNil tSv rfl).trans (SEnt.ch (.cons .head rfl (.cons .head rfl .nil))))) ?_
    refine Run.loop (α := Nat × Sv) (fun z => [(4, vlit (vsv z.2)), (5, vsl 1 (fun s : Sv => [vlit (vsv s)]) V), (7, vint (z.1 : Int))]) (fun z => [hsl tSv (vsv z.2) ((retS ps z.1).map Prod.fst), hrows ps]) (fun z => z.1 ≤ V.length) (fun z => V.length - z.1) (0, (Option.some ⟨b8, 0, none⟩, 0, 0)) (Nat.zero_le _) (Ent.of slA (.cons .head (by simp [retS]) chA)) ?_
    rintro ⟨m, s⟩ hm
    dsimp only at hm ⊢
    have hrl := retS_le ps m
    have hlen : ((retS ps m).map Prod.fst).length = (retS ps m).length := by simp
    rcases Nat.lt_or_eq_of_le hm with h9 | h9
    · have hcl : (comp (L[m]'(by omega)) (L[m]'(by omega))).length ≤ 1048576 := by
        rw [comp, List.length_map]; exact (hmaps _ (List.getElem_mem _)).1
      repeat' (first | (with_reducible first | refine RL.done ?_ | refine RL.app0 ?_ | refine RL.app1 ?_ | refine RL.app2 ?_ | refine RL.app3 ?_ | refine RL.app4 ?_ | refine RD.app0 ?_ | refine RD.app1 ?_ | refine RD.app2 ?_) | (with_reducible refine RL.wanted ?_ ?_; exact rfl) | ((with_reducible show Run _ _ (.region 8 _ true) _ _ _); refine Run.regionD (fun i => i == 8 || i == 13) rfl ?_; change RD _ _ _ _ _ _ 14 (dm 14 0) _ _) | ((with_reducible show RD _ _ 8 _ _ _ _ _ _ _); first | ((with_reducible show RD _ _ _ _ _ _ _ (dm 14 0) _ _); refine RD.tk 0 (dm 14 8460) (dm 14 1) (hK := ?_)) | ((with_reducible show RD _ _ _ _ _ _ _ (dm 14 1) _ _); refine RD.tk 1 (dm 14 8460) (dm 14 3) (hK := ?_)) | ((with_reducible show RD _ _ _ _ _ _ _ (dm 14 3) _ _); refine RD.tk 2 (dm 14 8456) (dm 14 7) (hK := ?_)) | ((with_reducible show RD _ _ _ _ _ _ _ (dm 14 7) _ _); first | refine RD.tk 3 (dm 14 8448) (dm 14 15) (hK := ?_) | (refine RD.lr 3 (dm 14 8448) (dm 14 15) (h := ?_); intro u)) | ((with_reducible show RD _ _ _ _ _ _ _ (dm 14 15) _ _); refine RD.tk 4 (dm 14 8640) (dm 14 31) (hK := ?_)) | ((with_reducible show RD _ _ _ _ _ _ _ (dm 14 31) _ _); refine RD.tk 5 (dm 14 8640) (dm 14 63) (hK := ?_)) | ((with_reducible show RD _ _ _ _ _ _ _ (dm 14 63) _ _); refine RD.tk 6 (dm 14 8576) (dm 14 127) (hK := ?_)) | ((with_reducible show RD _ _ _ _ _ _ _ (dm 14 127) _ _); first | refine RD.tk 7 (dm 14 8448) (dm 14 255) (hK := ?_) | (refine RD.lr 7 (dm 14 8448) (dm 14 255) (h := ?_); intro u)) | ((with_reducible show RD _ _ _ _ _ _ _ (dm 14 255) _ _); refine RD.a3 8 9 10 ?_ ?_ ?_) | ((with_reducible show RD _ _ _ _ _ _ _ (dm 14 511) _ _); refine RD.tk 9 (dm 14 14336) (dm 14 1023) (hK := ?_)) | ((with_reducible show RD _ _ _ _ _ _ _ (dm 14 767) _ _); refine RD.a2 8 10 ?_ ?_) | ((with_reducible show RD _ _ _ _ _ _ _ (dm 14 1279) _ _); refine RD.a2 8 9 ?_ ?_) | ((with_reducible show RD _ _ _ _ _ _ _ (dm 14 1023) _ _); refine RD.tk 10 (dm 14 14336) (dm 14 2047) (hK := ?_)) | ((with_reducible show RD _ _ _ _ _ _ _ (dm 14 1791) _ _); refine RD.a2 8 11 ?_ ?_) | ((with_reducible show RD _ _ _ _ _ _ _ (dm 14 1535) _ _); refine RD.tk 9 (dm 14 14336) (dm 14 2047) (hK := ?_)) | ((with_reducible show RD _ _ _ _ _ _ _ (dm 14 2047) _ _); refine RD.tk 11 (dm 14 12288) (dm 14 4095) (hK := ?_)) | ((with_reducible show RD _ _ _ _ _ _ _ (dm 14 3839) _ _); refine RD.a2 8 12 ?_ ?_) | ((with_reducible show RD _ _ _ _ _ _ _ (dm 14 4095) _ _); first | refine RD.tk 12 (dm 14 8192) (dm 14 8191) (hK := ?_) | (refine RD.lr 12 (dm 14 8192) (dm 14 8191) (h := ?_); intro u)) | ((with_reducible show RD _ _ _ _ _ _ _ (dm 14 7935) _ _); refine RD.a1 8 ?_) | ((with_reducible show RD _ _ _ _ _ _ _ (dm 14 8191) _ _); refine RD.a1 13 ?_) | ((with_reducible show RD _ _ _ _ _ _ 0 _ _ _); refine RD.done (by kernel_rfl) ?_)) | ((with_reducible show RO _ _ 8 _ _ _ _ _ _ _ _); first | ((with_reducible show RO _ _ _ _ _ _ _ (dm 14 255) 8 _ _); (refine RO.h (dm 14 511) ?_; show RH _ _ _ ⟨_, _, _, _, _, _⟩ _ _ _ _)) | ((with_reducible show RO _ _ _ _ _ _ _ (dm 14 255) 9 _ _); refine RO.v (dm 14 767) (hK := ?_)) | ((with_reducible show RO _ _ _ _ _ _ _ (dm 14 255) 10 _ _); refine RO.v (dm 14 1279) (hK := ?_)) | ((with_reducible show RO _ _ _ _ _ _ _ (dm 14 767) 8 _ _); (refine RO.h (dm 14 1023) ?_; show RH _ _ _ ⟨_, _, _, _, _, _⟩ _ _ _ _)) | ((with_reducible show RO _ _ _ _ _ _ _ (dm 14 767) 10 _ _); refine RO.v (dm 14 1791) (hK := ?_)) | ((with_reducible show RO _ _ _ _ _ _ _ (dm 14 1279) 8 _ _); (refine RO.h (dm 14 1535) ?_; show RH _ _ _ ⟨_, _, _, _, _, _⟩ _ _ _ _)) | ((with_reducible show RO _ _ _ _ _ _ _ (dm 14 1279) 9 _ _); refine RO.v (dm 14 1791) (hK := ?_)) | ((with_reducible show RO _ _ _ _ _ _ _ (dm 14 1791) 8 _ _); (refine RO.h (dm 14 2047) ?_; show RH _ _ _ ⟨_, _, _, _, _, _⟩ _ _ _ _)) | ((with_reducible show RO _ _ _ _ _ _ _ (dm 14 1791) 11 _ _); refine RO.v (dm 14 3839) (hK := ?_)) | ((with_reducible show RO _ _ _ _ _ _ _ (dm 14 3839) 8 _ _); (refine RO.h (dm 14 4095) ?_; show RH _ _ _ ⟨_, _, _, _, _, _⟩ _ _ _ _)) | ((with_reducible show RO _ _ _ _ _ _ _ (dm 14 3839) 12 _ _); refine RO.v (dm 14 7935) (hK := ?_)) | ((with_reducible show RO _ _ _ _ _ _ _ (dm 14 7935) 8 _ _); (refine RO.h (dm 14 8191) ?_; show RH _ _ _ ⟨_, _, _, _, _, _⟩ _ _ _ _)) | ((with_reducible show RO _ _ _ _ _ _ _ (dm 14 8191) 13 _ _); (refine RO.h (dm 14 16383) ?_; show RH _ _ _ ⟨_, _, _, _, _, _⟩ _ _ _ _))) | ((with_reducible show RH _ _ _ ⟨some 1, .box _ _, _, _, _, _⟩ _ _ _ _); first | (refine RH.boxAgg rfl rfl ?_; rintro _ _ ⟨b1, rfl, rfl⟩) | (refine RH.boxOne rfl rfl ?_; rintro _ _ ⟨b1, rfl, rfl⟩)) | ((with_reducible show RH _ _ _ ⟨some 8, .buildSlice _ _ _, _, _, _, _⟩ _ _ _ _); first | (refine RH.eff rfl rfl (EOpS.e (EOpS.slitV (by ((repeat (first | exact Elts.nil | apply Elts.one1 rfl | apply Elts.agg2 rfl)); done)) (by simp) rfl rfl)) ?_; rintro _ _ ⟨b8, rfl, rfl⟩) | (refine RH.eff rfl rfl (EOpS.e (EOpS.slit (fun t : List Int => [vsl 1 (fun x : Int => [vint x]) t]) _ (fun _ _ => rfl) (by ((repeat (first | exact Elts.nil | (apply Elts.cons; exact rfl; exact CellsOf.one))); done)) rfl rfl)) ?_; rintro _ _ ⟨b8, rfl, rfl⟩)) | ((with_reducible show RH _ _ _ ⟨some 43, .buildSlice _ _ _, _, _, _, _⟩ _ _ _ _); first | (refine RH.eff rfl rfl (EOpS.e (EOpS.slitV (by ((repeat (first | exact Elts.nil | apply Elts.one1 rfl | apply Elts.agg2 rfl)); done)) (by simp) rfl rfl)) ?_; rintro _ _ ⟨b43, rfl, rfl⟩) | (refine RH.eff rfl rfl (EOpS.e (EOpS.slit (fun t : List Int => [vsl 1 (fun x : Int => [vint x]) t]) _ (fun _ _ => rfl) (by ((repeat (first | exact Elts.nil | (apply Elts.cons; exact rfl; exact CellsOf.one))); done)) rfl rfl)) ?_; rintro _ _ ⟨b43, rfl, rfl⟩)) | ((with_reducible show RH _ _ _ ⟨_, .call ⟨.value (.func 78), _, _⟩, _, _, _, _⟩ _ _ _ _); refine RH.cW Try.call78 ?_; refine ⟨_, _, _, (by repeat (first | exact Pick.nil | (apply Pick.cons; (with_reducible repeat (first | exact Rem.head | apply Rem.tail))))), imH_c ps V L hV hX _ (by omega) (by omega) hmaps, ?_⟩; rintro _ _ ⟨s5, rfl, rfl⟩; refine RL.nm ?_) | ((with_reducible show RH _ _ _ ⟨_, .call ⟨.value (.func 77), _, _⟩, _, _, _, _⟩ _ _ _ _); refine RH.cW Try.call77 ?_; refine ⟨_, _, _, (by repeat (first | exact Pick.nil | (apply Pick.cons; (with_reducible repeat (first | exact Rem.head | apply Rem.tail))))), saH_c ps V L hV hX _ (by omega) (by omega) s5 _ hcl, ?_⟩; rintro _ _ ⟨rfl, rfl⟩; refine RL.nm ?_) | ((with_reducible show RH _ _ _ ⟨_, .call ⟨.builtin .append, _, _⟩, _, _, _, _⟩ _ _ _ _); (first | refine RH.appI rfl rfl rfl (by repeat (first | exact Pick.nil | (apply Pick.cons; (with_reducible repeat (first | exact Rem.head | apply Rem.tail))))) (by first | omega | (simp; omega)) (by first | omega | (simp; omega)) ?_ | refine RH.appR rfl rfl rfl (by repeat (first | exact Pick.nil | (apply Pick.cons; (with_reducible repeat (first | exact Rem.head | apply Rem.tail))))) (by first | omega | (simp; omega)) (by first | omega | (simp; omega)) ?_ | refine RH.appRI rfl rfl rfl (by repeat (first | exact Pick.nil | (apply Pick.cons; (with_reducible repeat (first | exact Rem.head | apply Rem.tail))))) (by first | exact rfl | (simp; done)) (by first | omega | (simp; omega)) (by first | omega | (simp; omega)) ?_ | refine RH.appF rfl rfl rfl (by repeat (first | exact Pick.nil | (apply Pick.cons; (with_reducible repeat (first | exact Rem.head | apply Rem.tail))))) (by first | omega | (simp; omega)) (by first | omega | (simp; omega)) ?_ | refine RH.appSv rfl rfl rfl (by repeat (first | exact Pick.nil | (apply Pick.cons; (with_reducible repeat (first | exact Rem.head | apply Rem.tail))))) (by first | omega | (simp; omega)) (by first | omega | (simp; omega)) ?_ | refine RH.appPI rfl rfl rfl (by repeat (first | exact Pick.nil | (apply Pick.cons; (with_reducible repeat (first | exact Rem.head | apply Rem.tail))))) (by first | omega | (simp; omega)) (by first | omega | (simp; omega)) ?_); rintro _ _ ⟨s, rfl, rfl⟩) | ((with_reducible show RH _ _ _ _ _ _ _ _); first | refine RH.val (hK := ?_) | refine RH.upd (hK := ?_) | (refine RH.lr (h := ?_); intro u)) | (with_reducible first | refine Run.seq ?_ | refine Run.region ?_ | refine Run.block ?_ | refine Run.skip ?_ | refine Run.exit ?_ | refine Run.ret ?_) | (with_reducible show Run _ _ (.cond _ _ _) _ _ _; first | refine Run.condT rfl ?_ | refine Run.condF rfl ?_ | refine Run.condD rfl (fun h => ?_) (fun h => ?_) | refine Run.condND rfl (fun h => ?_) (fun h => ?_) | refine Run.condNB rfl (fun h => ?_) (fun h => ?_) | refine Run.cond rfl (fun h => ?_) (fun h => ?_)) | (with_reducible first | refine seqN (K := Run _ _ _ _) ?_ | refine seqE ?_ | refine seqR ?_ | refine blockN ?_ | refine blockR ?_ | refine blockE ?_) | (with_reducible refine blockX ?_ ?_; exact rfl))
      all_goals first
        | (exfalso; omega)
        | (have hd := retS_yes hV hX h9 (by omega) (by assumption)
           with_reducible refine seqN ?_
           exact ⟨(m + 1, _), by dsimp only; omega, by dsimp only; omega, Ent.of (by dsimp only; exact slA) (by dsimp only; rw [hd]; exact chA)⟩)
        | (have hd := retS_no hX (m := m) (by omega) (by assumption)
           with_reducible refine seqN ?_
           exact ⟨(m + 1, s), by dsimp only; omega, by dsimp only; omega, Ent.of (by dsimp only; exact slA) (by dsimp only; rw [hd]; exact chA)⟩)
    · have h8 : m = ps.length := by omega
      subst h8
      repeat' (first | (with_reducible first | refine RL.done ?_ | refine RL.app0 ?_ | refine RL.app1 ?_ | refine RL.app2 ?_ | refine RL.app3 ?_ | refine RL.app4 ?_ | refine RD.app0 ?_ | refine RD.app1 ?_ | refine RD.app2 ?_) | (with_reducible refine RL.wanted ?_ ?_; exact rfl) | ((with_reducible show RH _ _ _ ⟨some 1, .box _ _, _, _, _, _⟩ _ _ _ _); first | (refine RH.boxAgg rfl rfl ?_; rintro _ _ ⟨b1, rfl, rfl⟩) | (refine RH.boxOne rfl rfl ?_; rintro _ _ ⟨b1, rfl, rfl⟩)) | ((with_reducible show RH _ _ _ ⟨some 8, .buildSlice _ _ _, _, _, _, _⟩ _ _ _ _); first | (refine RH.eff rfl rfl (EOpS.e (EOpS.slitV (by ((repeat (first | exact Elts.nil | apply Elts.one1 rfl | apply Elts.agg2 rfl)); done)) (by simp) rfl rfl)) ?_; rintro _ _ ⟨b8, rfl, rfl⟩) | (refine RH.eff rfl rfl (EOpS.e (EOpS.slit (fun t : List Int => [vsl 1 (fun x : Int => [vint x]) t]) _ (fun _ _ => rfl) (by ((repeat (first | exact Elts.nil | (apply Elts.cons; exact rfl; exact CellsOf.one))); done)) rfl rfl)) ?_; rintro _ _ ⟨b8, rfl, rfl⟩)) | ((with_reducible show RH _ _ _ ⟨some 43, .buildSlice _ _ _, _, _, _, _⟩ _ _ _ _); first | (refine RH.eff rfl rfl (EOpS.e (EOpS.slitV (by ((repeat (first | exact Elts.nil | apply Elts.one1 rfl | apply Elts.agg2 rfl)); done)) (by simp) rfl rfl)) ?_; rintro _ _ ⟨b43, rfl, rfl⟩) | (refine RH.eff rfl rfl (EOpS.e (EOpS.slit (fun t : List Int => [vsl 1 (fun x : Int => [vint x]) t]) _ (fun _ _ => rfl) (by ((repeat (first | exact Elts.nil | (apply Elts.cons; exact rfl; exact CellsOf.one))); done)) rfl rfl)) ?_; rintro _ _ ⟨b43, rfl, rfl⟩)) | ((with_reducible show RH _ _ _ _ _ _ _ _); first | refine RH.val (hK := ?_) | refine RH.upd (hK := ?_) | (refine RH.lr (h := ?_); intro u)) | (with_reducible first | refine Run.seq ?_ | refine Run.region ?_ | refine Run.block ?_ | refine Run.skip ?_ | refine Run.exit ?_ | refine Run.ret ?_) | (with_reducible show Run _ _ (.cond _ _ _) _ _ _; first | refine Run.condT rfl ?_ | refine Run.condF rfl ?_ | refine Run.condD rfl (fun h => ?_) (fun h => ?_) | refine Run.condND rfl (fun h => ?_) (fun h => ?_) | refine Run.condNB rfl (fun h => ?_) (fun h => ?_) | refine Run.cond rfl (fun h => ?_) (fun h => ?_)) | (with_reducible first | refine seqN (K := Run _ _ _ _) ?_ | refine seqE ?_ | refine seqR ?_ | refine blockN ?_ | refine blockR ?_ | refine blockE ?_) | (with_reducible refine blockX ?_ ?_; exact rfl))
      all_goals first
        | (exfalso; omega)
        | (refine ⟨eA, _, [hsl (tS tInt) (vsv s) (L.filter retB)], resA, ?_, ?_⟩
           · rw [← retS_all hX]
             exact (SEnt.pick (.cons (.tail .head) (.cons .head .nil))).trans ((SEnt.subrows (retS_sub ps)).trans ((SEnt.pick (.cons (.tail .head) (.cons .head .nil))).trans (SEnt.packrows.trans (SEnt.ch (.cons .head rfl .nil)))))
           · exact ⟨s, rfl, rfl⟩)
end Go.Proofs.Ytodlpdedldhebaa
