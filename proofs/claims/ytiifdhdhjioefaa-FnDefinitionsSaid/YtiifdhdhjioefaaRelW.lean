/- Relations made of rows: impl.different, sortedTuples, makeRelation, spec.l8Put: the same set. Proved for this program; conditions: rows of one length, at most a thousand. -/
import Derived.Test.YtiifdhdhjioefaaSrtF
import Derived.Test.YtiifdhdhjioefaaHrow
import Derived.Test.YtiifdhdhjioefaaSetP
import Derived.Test.YtiifdhdhjioefaaPatL
namespace Go.Proofs.Ytiifdhdhjioefaa
open Go Go.Proofs
set_option linter.unusedVariables false
theorem Spec.unrows {P : Program} {f : FuncId} {qs : List VP} {v : Value} {xs : List (List Int)} {S : List HP} {R : VP → List HP → Prop} (h : ∀ ps : PS, ps.map Prod.snd = xs → Spec P f qs (hsl tSv v (ps.map Prod.fst) :: hrows ps :: S) R) : Spec P f qs (hsl (tS tInt) v xs :: S) R :=
  ⟨fun c vs ha ⟨fs, hs⟩ => by
    obtain ⟨ps, h1, hs2⟩ := hs.unrows
    exact (h ps h1).run c vs ha hs2⟩
theorem sameLit_c (V : List Sv) (X : List (List Int)) (i j : Nat) (hi : i < V.length) (hj : j < V.length) (hx : V.length = X.length) (hr : Few X) :
    Spec Try.prog 80 [vlit (vsv V[i]), vlit (vsv V[j])] [rowsAre V X] (fun r S' => r = vbool (decide (X[i]'(by omega) = X[j]'(by omega))) ∧ S' = [rowsAre V X]) := by
  refine (Spec.upg (sameList_c (X[i]'(by omega)) (X[j]'(by omega)) (hr _ (List.getElem_mem _))) ?_).mono ?_
  · intro c vs fr ha hk
    obtain ⟨_, _, hk⟩ := hk
    cases ha with
    | cons p1 ha =>
      cases ha with
      | cons p2 ha =>
        cases ha
        cases p1; cases p2
        exact .cons (hk i _ _ (List.getElem?_eq_getElem hi) (List.getElem?_eq_getElem (by omega))) (.cons (hk j _ _ (List.getElem?_eq_getElem hj) (List.getElem?_eq_getElem (by omega))) .nil)
  · rintro r S' ⟨H, ⟨rfl, rfl⟩, rfl⟩
    exact ⟨rfl, rfl⟩
set_option maxRecDepth 10000 in
set_option maxHeartbeats 2000000 in
theorem different_v (ps : PS) (hl : ps.length ≤ 1000000) (hr : Few (ps.map Prod.snd)) :
    Spec Try.prog 136 [vsl 1 (fun s : Sv => [vlit (vsv s)]) (ps.map Prod.fst)] [rowsAre (ps.map Prod.fst) (ps.map Prod.snd)] (fun r S' => ∃ s : Sv, r = vlit (vsv s) ∧ S' = [hsl tSv (vsv s) ((difN Prod.snd ps ps.length).map Prod.fst)]) := by
  obtain ⟨V, hV⟩ : ∃ V, ps.map Prod.fst = V := ⟨_, rfl⟩
  obtain ⟨X, hX⟩ : ∃ X, ps.map Prod.snd = X := ⟨_, rfl⟩
  have hvl : V.length = ps.length := by rw [← hV]; simp
  have hxl : X.length = ps.length := by rw [← hX]; simp
  have hvx : V.length = X.length := by omega
  rw [hX] at hr
  rw [hV, hX]
  have hg : ∀ i (h : i < ps.length), (ps.getD i default).1 = V[i] ∧ (ps.getD i default).2 = X[i] := fun i h => by
    subst hV; subst hX
    simp [List.getD_eq_getElem?_getD, List.getElem?_eq_getElem h]
  refine Spec.of_run2 (n := 32) Try.func136 rfl Try.results136 Try.ntmps136 rfl ?_
  repeat' (first | (with_reducible refine RL.done ?_) | (with_reducible refine RL.wanted ?_ ?_; exact rfl) | ((with_reducible show RH _ _ _ ⟨some 6, .buildSlice _ _ _, _, _, _, _⟩ _ _ _ _); (refine RH.eff rfl rfl (EOpS.e (EOpS.slitV (by ((repeat (first | exact Elts.nil | apply Elts.one1 rfl | apply Elts.agg2 rfl)); done)) (by simp) rfl rfl)) ?_; rintro _ _ ⟨b6, rfl, rfl⟩)) | ((with_reducible show RH _ _ _ _ _ _ _ _); refine RH.val (hK := ?_)) | (with_reducible first | refine Run.seq ?_ | refine Run.region ?_ | refine Run.block ?_) | (with_reducible refine seqN (K := Run _ _ _ _) ?_))
  refine Run.sent (T := [hsl tSv (vsv (some ⟨b6, 0, none⟩, 0, 0)) [], rowsAre V X]) (SEnt.packNil tSv rfl) ?_
  refine Run.loop (α := Nat × Sv) (fun z => [(0, vsl 1 (fun s : Sv => [vlit (vsv s)]) V), (3, vlit (vsv z.2)), (7, vsl 1 (fun s : Sv => [vlit (vsv s)]) V), (8, vint (V.length : Int)), (9, vint (z.1 : Int))]) (fun z => [hsl tSv (vsv z.2) ((difN Prod.snd ps z.1).map Prod.fst), rowsAre V X]) (fun z => z.1 ≤ V.length) (fun z => V.length - z.1) (0, (some ⟨b6, 0, none⟩, 0, 0)) (Nat.zero_le _) (Ent.of (by dsimp only; exact slA) (.cons .head (by simp [difN]) chA)) ?_
  rintro ⟨i, s⟩ hi
  (try dsimp only at hi ⊢)
  have hdl : ((difN Prod.snd ps i).map Prod.fst).length ≤ i := by
    rw [List.length_map, difN, List.length_map]
    exact Nat.le_trans (List.length_filter_le _ _) (by simp)
  rcases Nat.lt_or_eq_of_le hi with h9 | h9
  · have hs := difN_succ Prod.snd ps i
    have e1 : ((i : Int) - 1).toNat = i - 1 := by omega
    have hgi := hg i (by omega)
    repeat' (first | (with_reducible refine RL.done ?_) | (with_reducible refine RL.wanted ?_ ?_; exact rfl) | ((with_reducible show RH _ _ _ ⟨some 28, .buildSlice _ _ _, _, _, _, _⟩ _ _ _ _); (refine RH.eff rfl rfl (EOpS.e (EOpS.slitV (by ((repeat (first | exact Elts.nil | apply Elts.one1 rfl | apply Elts.agg2 rfl)); done)) (by simp) rfl rfl)) ?_; rintro _ _ ⟨b28, rfl, rfl⟩)) | ((with_reducible show RH _ _ _ ⟨_, .call ⟨.value (.func 80), _, _⟩, _, _, _, _⟩ _ _ _ _); refine RH.cW Try.call80 ?_; refine ⟨_, _, _, (by repeat (first | exact Pick.nil | (apply Pick.cons; (with_reducible repeat (first | exact Rem.head | apply Rem.tail))))), sameLit_c V X _ _ (by omega) (by omega) hvx hr, ?_⟩; rintro _ _ ⟨rfl, rfl⟩; refine RL.nm ?_) | ((with_reducible show RH _ _ _ ⟨_, .call ⟨.builtin .append, _, _⟩, _, _, _, _⟩ _ _ _ _); (refine RH.appSv rfl rfl rfl (by repeat (first | exact Pick.nil | (apply Pick.cons; (with_reducible repeat (first | exact Rem.head | apply Rem.tail))))) (by first | omega | (simp; omega)) (by first | omega | (simp; omega)) ?_); rintro _ _ ⟨s, rfl, rfl⟩) | ((with_reducible show RH _ _ _ _ _ _ _ _); refine RH.val (hK := ?_)) | (with_reducible show RL _ _ _ (_ :: _) _ _ _; first | refine RL.guardYes rfl rfl rfl rfl ?_ | refine RL.guardNoS rfl rfl rfl rfl rfl rfl ?_ | refine RL.splitD rfl rfl rfl (fun h => ?_) (fun h => ?_)) | (with_reducible first | refine Run.seq ?_ | refine Run.region ?_ | refine Run.block ?_ | refine Run.skip ?_ | refine Run.exit ?_ | refine Run.ret ?_) | (with_reducible show Run _ _ (.cond _ _ _) _ _ _; first | refine Run.condT rfl ?_ | refine Run.condD rfl (fun h => ?_) (fun h => ?_) | refine Run.condND rfl (fun h => ?_) (fun h => ?_)) | (with_reducible first | refine seqN (K := Run _ _ _ _) ?_ | refine seqE ?_ | refine blockN ?_ | refine blockE ?_))
    all_goals first
      | (exfalso; omega)
      | (have hd : (difN Prod.snd ps (i + 1)).map Prod.fst = (difN Prod.snd ps i).map Prod.fst ++ [V[i]] := by
           rw [hs, difAt, decide_eq_true (by omega), Bool.true_or, if_pos rfl, List.map_append, List.map_cons, List.map_nil, hgi.1]
         with_reducible refine seqN ?_
         exact ⟨(i + 1, _), by dsimp only; omega, by dsimp only; omega, Ent.of (by dsimp only; exact slA) (by dsimp only; rw [hd]; exact chA)⟩)
      | (have hne : ¬ X[((i : Int) - 1).toNat]'(by omega) = X[i] := by assumption
         have hd : (difN Prod.snd ps (i + 1)).map Prod.fst = (difN Prod.snd ps i).map Prod.fst ++ [V[i]] := by
           rw [hs, difAt, (hg (i - 1) (by omega)).2, hgi.2, decide_eq_false (show ¬ X[i - 1]'(by omega) = X[i] from fun e => hne (by simpa [e1] using e)), Bool.not_false, Bool.or_true, if_pos rfl, List.map_append, List.map_cons, List.map_nil, hgi.1]
         with_reducible refine seqN ?_
         exact ⟨(i + 1, _), by dsimp only; omega, by dsimp only; omega, Ent.of (by dsimp only; exact slA) (by dsimp only; rw [hd]; exact chA)⟩)
      | (have heq : X[((i : Int) - 1).toNat]'(by omega) = X[i] := by first | assumption | (apply Decidable.not_not.1; assumption)
         have hd : (difN Prod.snd ps (i + 1)).map Prod.fst = (difN Prod.snd ps i).map Prod.fst := by
           rw [hs, difAt, (hg (i - 1) (by omega)).2, hgi.2, decide_eq_true (show X[i - 1]'(by omega) = X[i] from by simpa [e1] using heq), decide_eq_false (by omega), Bool.not_true, Bool.or_false, if_neg (by decide), List.append_nil]
         with_reducible refine seqN ?_
         exact ⟨(i + 1, s), by dsimp only; omega, by dsimp only; omega, Ent.of (by dsimp only; exact slA) (by dsimp only; rw [hd]; exact chA)⟩)
  · have e : i = ps.length := by omega
    subst e
    repeat' (first | (with_reducible refine RL.done ?_) | (with_reducible refine RL.wanted ?_ ?_; exact rfl) | ((with_reducible show RH _ _ _ ⟨some 28, .buildSlice _ _ _, _, _, _, _⟩ _ _ _ _); (refine RH.eff rfl rfl (EOpS.e (EOpS.slitV (by ((repeat (first | exact Elts.nil | apply Elts.one1 rfl | apply Elts.agg2 rfl)); done)) (by simp) rfl rfl)) ?_; rintro _ _ ⟨b28, rfl, rfl⟩)) | ((with_reducible show RH _ _ _ _ _ _ _ _); refine RH.val (hK := ?_)) | (with_reducible show RL _ _ _ (_ :: _) _ _ _; first | refine RL.guardYes rfl rfl rfl rfl ?_ | refine RL.guardNoS rfl rfl rfl rfl rfl rfl ?_ | refine RL.splitD rfl rfl rfl (fun h => ?_) (fun h => ?_)) | (with_reducible first | refine Run.seq ?_ | refine Run.region ?_ | refine Run.block ?_ | refine Run.skip ?_ | refine Run.exit ?_ | refine Run.ret ?_) | (with_reducible show Run _ _ (.cond _ _ _) _ _ _; first | refine Run.condT rfl ?_ | refine Run.condD rfl (fun h => ?_) (fun h => ?_)) | (with_reducible first | refine seqN (K := Run _ _ _ _) ?_ | refine seqE ?_ | refine blockE ?_))
    all_goals first
      | (exfalso; omega)
      | (refine ⟨eA, _, [hsl tSv (vsv s) ((difN Prod.snd ps ps.length).map Prod.fst)], resA, ?_, ?_⟩
         · exact SEnt.ch chA
         · exact ⟨s, rfl, rfl⟩)
theorem different_c (s : Sv) (ys : List (List Int)) (hl : ys.length ≤ 1000000) (hr : Few ys) :
    Spec Try.prog 136 [vlit (vsv s)] [hsl (tS tInt) (vsv s) ys] (fun r S' => ∃ s' : Sv, r = vlit (vsv s') ∧ S' = [hsl (tS tInt) (vsv s') (difN id ys ys.length)]) := by
  refine Spec.unrows fun ps hps => ?_
  subst hps
  have h1 : Spec Try.prog 136 [vrows ps] [] (fun r S' => ∃ s : Sv, r = vlit (vsv s) ∧ S' = [hsl tSv (vsv s) ((difN Prod.snd ps ps.length).map Prod.fst)]) :=
    Spec.know (different_v ps (by simpa using hl) hr) fun c v h => h
  refine (Spec.lendrows (v := vsv s) (S := []) h1 ?_).post ?_
  · rintro r H ⟨s', rfl, rfl⟩
    exact ⟨inferInstance, inferInstance⟩
  · rintro r S' ⟨H, ⟨s', rfl, rfl⟩, rfl⟩
    refine SImp.of (T := [hsl (tS tInt) (vsv s') (difN id (ps.map Prod.snd) (ps.map Prod.snd).length)]) ?_ ⟨s', rfl, rfl⟩
    rw [List.length_map, ← dif_map ps.length (Nat.le_refl _)]
    exact (SEnt.pick (.cons (.tail (.tail .head)) (.cons .head .nil))).trans ((SEnt.subrows (difN_sub Prod.snd ps)).trans ((SEnt.pick (.cons (.tail .head) (.cons .head .nil))).trans (SEnt.packrows.trans (SEnt.ch chA))))
theorem SEnt.putrow (n : Nat) (ps : PS) (w : Sv) (t : List Int) (v : Value) {S : List HP} : SEnt (hsl tSv v ([] ++ (ps.map Prod.fst).take n ++ [w] ++ (ps.map Prod.fst).drop n) :: hrows ps :: hsl tInt (vsv w) t :: S) [hsl (tS tInt) v ((ps.map Prod.snd).take n ++ t :: (ps.map Prod.snd).drop n)] := by
  have e1 : [] ++ (ps.map Prod.fst).take n ++ [w] ++ (ps.map Prod.fst).drop n = (ps.take n ++ (w, t) :: ps.drop n).map Prod.fst := by simp [List.map_take, List.map_drop]
  have e2 : (ps.map Prod.snd).take n ++ t :: (ps.map Prod.snd).drop n = (ps.take n ++ (w, t) :: ps.drop n).map Prod.snd := by simp [List.map_take, List.map_drop]
  rw [e1, e2]
  have e3 : hrows ps = hrows (ps.take n ++ ps.drop n) := by rw [List.take_append_drop]
  rw [e3]
  exact (SEnt.pick (.cons (.tail .head) (.cons (.tail .head) (.cons .head .nil)))).trans (SEnt.insrow.trans ((SEnt.pick (.cons (.tail .head) (.cons .head .nil))).trans (SEnt.packrows.trans (SEnt.ch (.cons .head rfl .nil)))))
set_option maxRecDepth 10000 in
set_option maxHeartbeats 4000000 in
theorem l8Put_c (l : List (List Int)) (t : List Int) (s w : Sv) (k : Nat) (hs : Str l) (hu : ∀ u ∈ l, u.length = k) (ht : t.length = k) (hl : l.length ≤ 1000000) (hk : k ≤ 1000000) :
    Spec Try.prog 90 [vlit (vsv s), vlit (vsv w)] [hsl (tS tInt) (vsv s) l, hsl tInt (vsv w) t] (fun r S' => ∃ s' : Sv, r = vlit (vsv s') ∧ S' = [hsl (tS tInt) (vsv s') (putL l t)]) := by
  have hul : ∀ u ∈ l, u.length = t.length := fun u h => by rw [hu u h, ht]
  have hsd := str_sorted hs hu
  have hpl : placeOf l t ≤ l.length := (List.takeWhile_sublist _).length_le
  by_cases hin : t ∈ l
  · rw [putL, if_pos hin]
    refine Spec.of_run2 (n := 27) Try.func90 rfl Try.results90 Try.ntmps90 rfl ?_
    repeat' (first | (with_reducible refine RL.done ?_) | (with_reducible refine RL.wanted ?_ ?_; exact rfl) | ((with_reducible show RH _ _ _ ⟨_, .call ⟨.value (.func 113), _, _⟩, _, _, _, _⟩ _ _ _ _); refine RH.cL Try.call113 ?_; apply Exists.intro; apply And.intro; (focus ((repeat (first | exact LVs.nil | (apply LVs.sl; (with_reducible repeat (first | exact Has.head | apply Has.tail)); exact inferInstance; exact rfl))); done)); refine ⟨_, l8Find_c l t (by omega) (by omega) hul hsd, (by intro r H h; first | (obtain ⟨rfl, rfl⟩ := h; exact ⟨inferInstance, inferInstance⟩) | (obtain ⟨_, rfl, rfl⟩ := h; exact ⟨inferInstance, inferInstance⟩) | (obtain ⟨_, _, rfl, rfl⟩ := h; exact ⟨inferInstance, inferInstance⟩) | (obtain ⟨_, _, rfl, rfl, _⟩ := h; exact ⟨inferInstance, inferInstance⟩)), ?_⟩; rintro _ _ ⟨rfl, rfl⟩; refine RL.nm ?_) | ((with_reducible show RH _ _ _ _ _ _ _ _); refine RH.val (hK := ?_)) | (with_reducible first | refine Run.seq ?_ | refine Run.region ?_ | refine Run.skip ?_ | refine Run.ret ?_) | (with_reducible show Run _ _ (.cond _ _ _) _ _ _; refine Run.condD rfl (fun h => ?_) (fun h => ?_)) | (with_reducible first | refine seqN (K := Run _ _ _ _) ?_ | refine seqR ?_))
    all_goals first
      | (exfalso; simp_all; done)
      | (refine ⟨eA, _, [hsl (tS tInt) (vsv s) l], resA, ?_, ?_⟩
         · exact SEnt.ch chA
         · exact ⟨s, rfl, rfl⟩)
  · rw [putL, if_neg hin]
    refine Spec.of_run2 (n := 27) Try.func90 rfl Try.results90 Try.ntmps90 rfl ?_
    repeat' (first | (with_reducible refine RL.done ?_) | (with_reducible refine RL.wanted ?_ ?_; exact rfl) | ((with_reducible show RH _ _ _ ⟨_, .call ⟨.value (.func 113), _, _⟩, _, _, _, _⟩ _ _ _ _); refine RH.cL Try.call113 ?_; apply Exists.intro; apply And.intro; (focus ((repeat (first | exact LVs.nil | (apply LVs.sl; (with_reducible repeat (first | exact Has.head | apply Has.tail)); exact inferInstance; exact rfl))); done)); refine ⟨_, l8Find_c l t (by omega) (by omega) hul hsd, (by intro r H h; first | (obtain ⟨rfl, rfl⟩ := h; exact ⟨inferInstance, inferInstance⟩) | (obtain ⟨_, rfl, rfl⟩ := h; exact ⟨inferInstance, inferInstance⟩) | (obtain ⟨_, _, rfl, rfl⟩ := h; exact ⟨inferInstance, inferInstance⟩) | (obtain ⟨_, _, rfl, rfl, _⟩ := h; exact ⟨inferInstance, inferInstance⟩)), ?_⟩; rintro _ _ ⟨rfl, rfl⟩; refine RL.nm ?_) | ((with_reducible show RH _ _ _ _ _ _ _ _); refine RH.val (hK := ?_)) | (with_reducible first | refine Run.seq ?_ | refine Run.region ?_ | refine Run.skip ?_ | refine Run.ret ?_) | (with_reducible show Run _ _ (.cond _ _ _) _ _ _; refine Run.condD rfl (fun h => ?_) (fun h => ?_)) | (with_reducible first | refine seqN (K := Run _ _ _ _) ?_ | refine seqR ?_))
    all_goals first
      | (exfalso; simp_all; done)
      | skip
    refine Run.unrows (by ((with_reducible repeat (first | exact Rem.head | apply Rem.tail)); done)) ?_
    rintro ps rfl
    refine Run.toFz (t := tSv) .head ?_
    change Run _ _ _ _ _ (hfz 1 (fun s : Sv => [vlit (vsv s)]) s _ :: _)
    have hpl3 : ps.length ≤ 1000000 := by simpa using hl
    have hpl2 : placeOf (ps.map Prod.snd) t ≤ ps.length := by simpa using hpl
    repeat' (first | (with_reducible refine RL.done ?_) | ((with_reducible show Run _ _ (.region 4 _ true) _ _ _); refine Run.regionD (fun i => i == 4 || i == 7 || i == 11) rfl ?_; change RD _ _ _ _ _ _ 13 (dm 13 0) _ _) | ((with_reducible show RD _ _ 4 _ _ _ _ _ _ _); first | ((with_reducible show RD _ _ _ _ _ _ _ (dm 13 0) _ _); refine RD.tk 1 (dm 13 6296) (dm 13 2) (hK := ?_)) | ((with_reducible show RD _ _ _ _ _ _ _ (dm 13 2) _ _); refine RD.tk 2 (dm 13 6296) (dm 13 6) (hK := ?_)) | ((with_reducible show RD _ _ _ _ _ _ _ (dm 13 6) _ _); refine RD.tk 3 (dm 13 6288) (dm 13 14) (hK := ?_)) | ((with_reducible show RD _ _ _ _ _ _ _ (dm 13 14) _ _); refine RD.mv 5 (dm 13 6336) (dm 13 46) (hK := ?_)) | ((with_reducible show RD _ _ _ _ _ _ _ (dm 13 46) _ _); refine RD.mv 8 (dm 13 7168) (dm 13 302) (hK := ?_)) | ((with_reducible show RD _ _ _ _ _ _ _ (dm 13 302) _ _); refine RD.mv 9 (dm 13 7168) (dm 13 814) (hK := ?_)) | ((with_reducible show RD _ _ _ _ _ _ _ (dm 13 814) _ _); refine RD.mvLo 10 (dm 13 6144) (dm 13 1838) rfl (by kernel_rfl) rfl (by kernel_rfl) (by kernel_rfl) rfl (by with_reducible repeat (first | exact Has.head | apply Has.tail)) rfl (by first | omega | (simp; omega)) ?_) | ((with_reducible show RD _ _ _ _ _ _ _ (dm 13 1838) _ _); refine RD.a2 0 6 ?_ ?_) | ((with_reducible show RD _ _ _ _ _ _ _ (dm 13 1839) _ _); refine RD.a2 4 6 ?_ ?_) | ((with_reducible show RD _ _ _ _ _ _ _ (dm 13 1902) _ _); refine RD.a1 0 ?_) | ((with_reducible show RD _ _ _ _ _ _ _ (dm 13 1855) _ _); refine RD.a1 6 ?_) | ((with_reducible show RD _ _ _ _ _ _ _ (dm 13 1903) _ _); refine RD.a1 4 ?_) | ((with_reducible show RD _ _ _ _ _ _ _ (dm 13 1919) _ _); refine RD.a1 7 ?_) | ((with_reducible show RD _ _ _ _ _ _ _ (dm 13 2047) _ _); refine RD.a1 11 ?_) | ((with_reducible show RD _ _ _ _ _ _ _ (dm 13 4095) _ _); refine RD.tk 12 (dm 13 0) (dm 13 8191) (hK := ?_)) | ((with_reducible show RD _ _ _ _ _ _ 0 _ _ _); refine RD.done (by kernel_rfl) ?_)) | ((with_reducible show RO _ _ 4 _ _ _ _ _ _ _ _); first | ((with_reducible show RO _ _ _ _ _ _ _ (dm 13 1838) 0 _ _); (refine RO.eS (dm 13 1839) (hv := by show EOpS _ _ _ _ ⟨_, .buildSlice _ _ _, _, _, _, _⟩ _; exact EOpS.slit (fun s : Sv => [vlit (vsv s)]) _ (fun _ _ => rfl) (by ((repeat (first | exact Elts.nil | (apply Elts.cons; exact rfl; exact CellsOf.one))); done)) rfl rfl) (h := ?_); rintro _ _ ⟨b15, rfl, rfl⟩)) | ((with_reducible show RO _ _ _ _ _ _ _ (dm 13 1838) 6 _ _); (refine RO.eS (dm 13 1902) (hv := by show EOpS _ _ _ _ ⟨_, .buildSlice _ _ _, _, _, _, _⟩ _; exact EOpS.slit (fun s : Sv => [vlit (vsv s)]) _ (fun _ _ => rfl) (by ((repeat (first | exact Elts.nil | (apply Elts.cons; exact rfl; exact CellsOf.one))); done)) rfl rfl) (h := ?_); rintro _ _ ⟨b21, rfl, rfl⟩)) | ((with_reducible show RO _ _ _ _ _ _ _ (dm 13 1839) 4 _ _); (refine RO.h (dm 13 1855) ?_; show RH _ _ _ ⟨_, _, _, _, _, _⟩ _ _ _ _)) | ((with_reducible show RO _ _ _ _ _ _ _ (dm 13 1839) 6 _ _); (refine RO.eS (dm 13 1903) (hv := by show EOpS _ _ _ _ ⟨_, .buildSlice _ _ _, _, _, _, _⟩ _; exact EOpS.slit (fun s : Sv => [vlit (vsv s)]) _ (fun _ _ => rfl) (by ((repeat (first | exact Elts.nil | (apply Elts.cons; exact rfl; exact CellsOf.one))); done)) rfl rfl) (h := ?_); rintro _ _ ⟨b21, rfl, rfl⟩)) | ((with_reducible show RO _ _ _ _ _ _ _ (dm 13 1902) 0 _ _); (refine RO.eS (dm 13 1903) (hv := by show EOpS _ _ _ _ ⟨_, .buildSlice _ _ _, _, _, _, _⟩ _; exact EOpS.slit (fun s : Sv => [vlit (vsv s)]) _ (fun _ _ => rfl) (by ((repeat (first | exact Elts.nil | (apply Elts.cons; exact rfl; exact CellsOf.one))); done)) rfl rfl) (h := ?_); rintro _ _ ⟨b15, rfl, rfl⟩)) | ((with_reducible show RO _ _ _ _ _ _ _ (dm 13 1855) 6 _ _); (refine RO.eS (dm 13 1919) (hv := by show EOpS _ _ _ _ ⟨_, .buildSlice _ _ _, _, _, _, _⟩ _; exact EOpS.slit (fun s : Sv => [vlit (vsv s)]) _ (fun _ _ => rfl) (by ((repeat (first | exact Elts.nil | (apply Elts.cons; exact rfl; exact CellsOf.one))); done)) rfl rfl) (h := ?_); rintro _ _ ⟨b21, rfl, rfl⟩)) | ((with_reducible show RO _ _ _ _ _ _ _ (dm 13 1903) 4 _ _); (refine RO.h (dm 13 1919) ?_; show RH _ _ _ ⟨_, _, _, _, _, _⟩ _ _ _ _)) | ((with_reducible show RO _ _ _ _ _ _ _ (dm 13 1919) 7 _ _); (refine RO.h (dm 13 2047) ?_; show RH _ _ _ ⟨_, _, _, _, _, _⟩ _ _ _ _)) | ((with_reducible show RO _ _ _ _ _ _ _ (dm 13 2047) 11 _ _); (refine RO.h (dm 13 4095) ?_; show RH _ _ _ ⟨_, _, _, _, _, _⟩ _ _ _ _))) | ((with_reducible show RH _ _ _ ⟨_, .call ⟨.builtin .append, _, _⟩, _, _, _, _⟩ _ _ _ _); refine RH.appV rfl rfl rfl (by with_reducible repeat (first | exact Plc.head | apply Plc.tail)) (by first | exact rfl | (simp; done)) (by decide) (by first | omega | (simp; omega)) (by first | omega | (simp; omega)) ?_; rintro _ _ ⟨b9, c9, rfl, rfl⟩) | ((with_reducible show RH _ _ _ ⟨_, .call ⟨.builtin .append, _, _⟩, _, _, _, _⟩ _ _ _ _); refine RH.appOO rfl rfl rfl (by with_reducible repeat (first | exact Has.head | apply Has.tail)) (by with_reducible repeat (first | exact Plc.head | apply Plc.tail)) (by first | exact rfl | (simp; done)) rfl (by first | omega | (simp; omega)) (by first | omega | (simp; omega)) ?_; rintro _ _ ⟨b9, c9, rfl, rfl⟩) | (with_reducible refine Run.ret ?_) | (with_reducible refine seqN (K := Run _ _ _ _) ?_))
    all_goals
      refine ⟨eA, _, [hsl (tS tInt) (vsv (some ⟨b9, 0, none⟩, ([] ++ (ps.map Prod.fst).take (placeOf (ps.map Prod.snd) t) ++ [w]).length + ((ps.map Prod.fst).drop (placeOf (ps.map Prod.snd) t)).length, c9)) ((ps.map Prod.snd).take (placeOf (ps.map Prod.snd) t) ++ t :: (ps.map Prod.snd).drop (placeOf (ps.map Prod.snd) t))], resA, ?_, ?_⟩
      · refine (SEnt.pick (B := [harr b9 1 (fun s : Sv => [vlit (vsv s)]) _ (c9 * 1), hrows ps, hsl tInt (vsv w) t]) (by repeat (first | exact Pick.nil | (apply Pick.cons; (with_reducible repeat (first | exact Rem.head | apply Rem.tail)))))).trans ?_
        refine (SEnt.pack (rv := vsv) (fun _ => rfl) List.length_append.symm).trans ?_
        exact SEnt.putrow _ _ _ _ _
      · exact ⟨(some ⟨b9, 0, none⟩, _, c9), rfl, rfl⟩
end Go.Proofs.Ytiifdhdhjioefaa
