/- The results of a search for homomorphisms on spec's side: l7Find, l7One, l7Auts; what all results are. Proved for this program; conditions: valid algebras of one type. -/
import Derived.Test.YtejeeokjjbiadaaHomW
namespace Go.Proofs.Ytejeeokjjbiadaa
open Go Go.Proofs
set_option linter.unusedVariables false

/-- rows of maps -/
abbrev RowsH (n n2 : Int) (L : List (List Int)) : Prop := ∀ x ∈ L, (x.length : Int) = n ∧ ∀ y ∈ x, 0 ≤ y ∧ y < n2
theorem foldl_inv {σ : Type} {p : σ → Prop} {g : σ → Nat → σ} : ∀ {l : List Nat} {s : σ}, (∀ s y, y ∈ l → p s → p (g s y)) → p s → p (l.foldl g s)
  | [], s, _, h => h
  | y :: l, s, hg, h => foldl_inv (l := l) (fun s z hz => hg s z (by simp [hz])) (hg s y (by simp) h)
theorem srF_rows {n : Int} {m2 : Nat} {ps : List ((Int × List Int) × (Int × List Int))} (hp : PrsOk n m2 ps) (into : Bool) (good : List Int → Bool) (most : Nat) : ∀ (d : Nat) (f : List Int) (s : SSt), MapOk n m2 f → RowsH n m2 s.2 → RowsH n m2 (srF (fitF n m2 ps into) good most m2 d f s).2
  | 0, f, s, _, h => h
  | d + 1, f, s, hf, h => by
    by_cases hfull : openAt f = f.length
    · rw [srF_full hfull]
      dsimp only
      split
      · intro x hx
        rcases List.mem_append.1 hx with h1 | h1
        · exact h x h1
        · rw [List.mem_singleton] at h1
          subst h1
          exact ⟨hf.len, fun y hy => ⟨openAt_none hfull y hy, (hf.rng y hy).2⟩⟩
      · exact h
    · rw [srF_open hfull]
      refine foldl_inv (p := fun s : SSt => RowsH n m2 s.2) (fun s y hy h => ?_) h
      have hy2 := List.mem_range'.1 hy
      rw [srS]
      split
      · split
        · exact h
        · cases hfo : fitF n m2 ps into (f.set (openAt f) (y : Int)) with
          | none => exact h
          | some g =>
            have hmo : MapOk n m2 (f.set (openAt f) (y : Int)) := hf.set (by omega) (by omega)
            exact srF_rows hp into good most d g (s.1 + 1, s.2) (fitF_ok hp hmo hfo).1 h
      · exact h
theorem homS_rows (N m2 : Nat) {os os2 : List (Int × List Int)} (hp : PrsOk (N : Int) m2 (os.zip os2)) (into : Bool) (good : List Int → Bool) (most : Nat) : RowsH (N : Int) m2 (homS (N : Int) os m2 os2 into good most).2 := by
  rw [homS_eq]
  cases hfo : fitF (N : Int) m2 (os.zip os2) into (List.replicate N (-1)) with
  | none => intro x hx; cases hx
  | some g => exact srF_rows hp into good most _ g _ (fitF_ok hp (mapNew N m2) hfo).1 (fun x hx => by cases hx)
theorem twoB_ok {n : Int} {os : List (Int × List Int)} {n2 : Int} {os2 : List (Int × List Int)} (h : twoB n os n2 os2 = true) : ∃ N m2 : Nat, n = N ∧ n2 = m2 ∧ HomOk (N : Int) m2 os os2 := by
  obtain ⟨h1, h2, _⟩ := twoB_at h
  obtain ⟨hl, hp⟩ := twoB_prs h
  obtain ⟨a1, a8, a4, _⟩ := algB_at h1
  obtain ⟨b1, b8, _, _⟩ := algB_at h2
  refine ⟨n.toNat, n2.toNat, by omega, by omega, ?_⟩
  rw [show ((n.toNat : Nat) : Int) = n by omega, show ((n2.toNat : Nat) : Int) = n2 by omega]
  exact ⟨hp, hl, a4, a1, a8, b1, b8⟩
theorem fill_snoc {α : Type} (x : α) (j : Nat) : List.replicate j x ++ [x] = List.replicate (j + 1) x := by rw [List.replicate_succ']
set_option maxRecDepth 10000 in
set_option maxHeartbeats 4000000 in
theorem l7Find_c (N m2 : Nat) (os os2 : List (Int × List Int)) (into onto : Bool) (most : Nat) (hh : HomOk (N : Int) m2 os os2) (hm0 : 0 < most) (hm1 : most ≤ 1024) :
    Spec Try.prog 161 [vagg [vint (N : Int), vsl 2 (fun y : Int × (List Int) => [vint y.1, vsl 1 (fun x : Int => [vint x]) y.2]) os], vagg [vint (m2 : Int), vsl 2 (fun y : Int × (List Int) => [vint y.1, vsl 1 (fun x : Int => [vint x]) y.2]) os2], vbool into, vbool onto, vint (most : Int)] [] (fun r S' => ∃ s : Sv, r = vtup [vlit (vsv s), vbool (decide ((homS (N : Int) os m2 os2 into (goodO onto m2) most).1 ≤ 5000))] ∧ S' = [hsl (tS tInt) (vsv s) (homS (N : Int) os m2 os2 into (goodO onto m2) most).2]) := by
  have hn8 := hh.n8
  have hmo := mapNew N m2
  have hC := l7Close_c (N : Int) m2 os os2 (List.replicate N (-1)) ((N : Int).toNat + 1) hh.prs hh.len hh.four hn8 hmo hmo.few
  have hfit : fitF (N : Int) m2 (os.zip os2) into (List.replicate N (-1)) = match clF (N : Int) m2 (os.zip os2) ((N : Int).toNat + 1) (List.replicate N (-1)) with
    | none => none
    | some g => if into && !intoB g then none else some g := rfl
  rw [homS_eq]
  refine Spec.of_run2 (n := 63) Try.func161 rfl Try.results161 Try.ntmps161 rfl ?_
  repeat' (first | (with_reducible refine RL.done ?_) | (with_reducible refine RL.wanted ?_ ?_; exact rfl) | ((with_reducible show Run _ _ (.region 2 _ _) _ _ (hcells _ _ :: harr _ _ _ _ _ :: _)); refine Run.sent (T := [hsl (tS tInt) (vsv (some ⟨b22, 0, none⟩, 0, 0)) [], lscells b24 (N : Int) m2 os os2 into onto most 0 (some ⟨b22, 0, none⟩, 0, 0), hcells b6 [vint (m2 : Int), vsl 2 (fun y : Int × (List Int) => [vint y.1, vsl 1 (fun x : Int => [vint x]) y.2]) os2], hcells b5 [vint (N : Int), vsl 2 (fun y : Int × (List Int) => [vint y.1, vsl 1 (fun x : Int => [vint x]) y.2]) os]]) ((SEnt.ch (.cons (.tail .head) rfl (.cons .head rfl chA))).trans (SEnt.packNil (tS tInt) rfl)) ?_) | ((with_reducible show RH _ _ _ ⟨some 5, .box _ _, _, _, _, _⟩ _ _ _ _); (refine RH.boxAgg rfl rfl ?_; rintro _ _ ⟨b5, rfl, rfl⟩)) | ((with_reducible show RH _ _ _ ⟨some 6, .box _ _, _, _, _, _⟩ _ _ _ _); (refine RH.boxAgg rfl rfl ?_; rintro _ _ ⟨b6, rfl, rfl⟩)) | ((with_reducible show RH _ _ _ ⟨some 22, .buildSlice _ _ _, _, _, _, _⟩ _ _ _ _); (refine RH.eff rfl rfl (EOpS.e (EOpS.slitV (by ((repeat (first | exact Elts.nil | apply Elts.one1 rfl | apply Elts.agg2 rfl)); done)) (by simp) rfl rfl)) ?_; rintro _ _ ⟨b22, rfl, rfl⟩)) | ((with_reducible show RH _ _ _ ⟨some 24, .box _ _, _, _, _, _⟩ _ _ _ _); (refine RH.boxAgg rfl rfl ?_; rintro _ _ ⟨b24, rfl, rfl⟩)) | ((with_reducible show RH _ _ _ ⟨some 25, .buildSlice _ _ _, _, _, _, _⟩ _ _ _ _); refine RH.eff rfl rfl (EOpS.e (EOpS.slit (fun x : Int => [vint x]) _ (fun _ _ => rfl) (by repeat (first | exact Elts.nil | (apply Elts.cons; exact rfl; exact CellsOf.one))) rfl rfl)) ?_; rintro _ _ ⟨b25, rfl, rfl⟩) | ((with_reducible show RH _ _ _ _ _ _ _ _); refine RH.val (hK := ?_)) | (with_reducible first | refine Run.seq ?_ | refine Run.region ?_ | refine Run.block ?_) | (with_reducible refine seqN (K := Run _ _ _ _) ?_))
  refine Run.sent (T := [hsl tInt (vsv (some ⟨b25, 0, none⟩, 0, 0)) [], hsl (tS tInt) (vsv (some ⟨b22, 0, none⟩, 0, 0)) [], lscells b24 (N : Int) m2 os os2 into onto most 0 (some ⟨b22, 0, none⟩, 0, 0), hcells b6 [vint (m2 : Int), vsl 2 (fun y : Int × (List Int) => [vint y.1, vsl 1 (fun x : Int => [vint x]) y.2]) os2], hcells b5 [vint (N : Int), vsl 2 (fun y : Int × (List Int) => [vint y.1, vsl 1 (fun x : Int => [vint x]) y.2]) os]]) (SEnt.packNil tInt rfl) ?_
  refine Run.loop (α := Nat × Sv) (fun x => [(2, vbool into), (5, vptr b5 0), (6, vptr b6 0), (12, vptr b24 0), (13, vlit (vsv x.2)), (14, vint (x.1 : Int))]) (fun x => [hsl tInt (vsv x.2) (List.replicate x.1 (-1)), hsl (tS tInt) (vsv (some ⟨b22, 0, none⟩, 0, 0)) [], lscells b24 (N : Int) m2 os os2 into onto most 0 (some ⟨b22, 0, none⟩, 0, 0), hcells b6 [vint (m2 : Int), vsl 2 (fun y : Int × (List Int) => [vint y.1, vsl 1 (fun x : Int => [vint x]) y.2]) os2], hcells b5 [vint (N : Int), vsl 2 (fun y : Int × (List Int) => [vint y.1, vsl 1 (fun x : Int => [vint x]) y.2]) os]]) (fun x => x.1 ≤ N) (fun x => N - x.1) (0, (some ⟨b25, 0, none⟩, 0, 0)) (by simp) (Ent.of slA (.cons .head rfl chA)) ?_
  rintro ⟨j, s⟩ hj
  (try dsimp only at hj ⊢)
  rcases Nat.lt_or_eq_of_le hj with h9 | rfl
  · repeat' (first | (with_reducible refine RL.done ?_) | (with_reducible refine RL.wanted ?_ ?_; exact rfl) | ((with_reducible show RH _ _ _ ⟨some 33, .buildSlice _ _ _, _, _, _, _⟩ _ _ _ _); refine RH.eff rfl rfl (EOpS.e (EOpS.slit (fun x : Int => [vint x]) _ (fun _ _ => rfl) (by repeat (first | exact Elts.nil | (apply Elts.cons; exact rfl; exact CellsOf.one))) rfl rfl)) ?_; rintro _ _ ⟨b33, rfl, rfl⟩) | ((with_reducible show RH _ _ _ ⟨_, .call ⟨.builtin .append, _, _⟩, _, _, _, _⟩ _ _ _ _); (refine RH.appI rfl rfl rfl (by repeat (first | exact Pick.nil | (apply Pick.cons; (with_reducible repeat (first | exact Rem.head | apply Rem.tail))))) (by first | omega | (simp; omega)) (by first | omega | (simp; omega)) ?_); rintro _ _ ⟨s, rfl, rfl⟩) | ((with_reducible show RH _ _ _ _ _ _ _ _); refine RH.val (hK := ?_)) | (with_reducible first | refine Run.seq ?_ | refine Run.region ?_ | refine Run.block ?_ | refine Run.skip ?_ | refine Run.exit ?_) | (with_reducible show Run _ _ (.cond _ _ _) _ _ _; refine Run.condD rfl (fun h => ?_) (fun h => ?_)) | (with_reducible first | refine seqN (K := Run _ _ _ _) ?_ | refine seqE ?_ | refine blockN ?_ | refine blockE ?_))
    all_goals first
      | (exfalso; omega)
      | (with_reducible refine seqN ?_
         exact ⟨(j + 1, _), by simp; omega, by simp; omega, Ent.of slA (by dsimp only; exact .cons .head (by rw [fill_snoc]) chA)⟩)
  · cases hO : clF (j : Int) m2 (os.zip os2) ((j : Int).toNat + 1) (List.replicate j (-1)) with
    | none =>
      rw [hO] at hfit hC
      (try dsimp only at hfit)
      replace hC := hC.mono (R' := fun r S' => ∃ s : Sv, r = vtup [vlit (vsv s), vbool false] ∧ S' = [hsl tInt (vsv s) []]) (fun r S' h => h)
      rw [hfit]
      repeat' (first | (with_reducible refine RL.done ?_) | (with_reducible refine RL.wanted ?_ ?_; exact rfl) | ((with_reducible show Run _ _ (.region 10 _ true) _ _ _); refine Run.regionD (fun i => false) rfl ?_; change RD _ _ _ _ _ _ 11 (dm 11 0) _ _) | ((with_reducible show RD _ _ 10 _ _ _ _ _ _ _); first | ((with_reducible show RD _ _ _ _ _ _ _ (dm 11 0) _ _); refine RD.tk 0 (dm 11 1550) (dm 11 1) (hK := ?_)) | ((with_reducible show RD _ _ _ _ _ _ _ (dm 11 1) _ _); refine RD.tk 1 (dm 11 1548) (dm 11 3) (hK := ?_)) | ((with_reducible show RD _ _ _ _ _ _ _ (dm 11 3) _ _); refine RD.tk 2 (dm 11 1544) (dm 11 7) (hK := ?_)) | ((with_reducible show RD _ _ _ _ _ _ _ (dm 11 7) _ _); refine RD.tk 3 (dm 11 1536) (dm 11 15) (hK := ?_)) | ((with_reducible show RD _ _ _ _ _ _ _ (dm 11 15) _ _); refine RD.tk 4 (dm 11 1504) (dm 11 31) (hK := ?_)) | ((with_reducible show RD _ _ _ _ _ _ _ (dm 11 31) _ _); refine RD.tk 5 (dm 11 1472) (dm 11 63) (hK := ?_)) | ((with_reducible show RD _ _ _ _ _ _ _ (dm 11 63) _ _); refine RD.tk 6 (dm 11 1408) (dm 11 127) (hK := ?_)) | ((with_reducible show RD _ _ _ _ _ _ _ (dm 11 127) _ _); refine RD.tk 7 (dm 11 1280) (dm 11 255) (hK := ?_)) | ((with_reducible show RD _ _ _ _ _ _ _ (dm 11 255) _ _); refine RD.tk 8 (dm 11 1024) (dm 11 511) (hK := ?_)) | ((with_reducible show RD _ _ _ _ _ _ _ (dm 11 511) _ _); refine RD.tk 9 (dm 11 1024) (dm 11 1023) (hK := ?_)) | ((with_reducible show RD _ _ _ _ _ _ _ (dm 11 1023) _ _); refine RD.tk 10 (dm 11 0) (dm 11 2047) (hK := ?_)) | ((with_reducible show RD _ _ _ _ _ _ 0 _ _ _); refine RD.done (by kernel_rfl) ?_)) | ((with_reducible show RH _ _ _ ⟨some 33, .buildSlice _ _ _, _, _, _, _⟩ _ _ _ _); refine RH.eff rfl rfl (EOpS.e (EOpS.slit (fun x : Int => [vint x]) _ (fun _ _ => rfl) (by repeat (first | exact Elts.nil | (apply Elts.cons; exact rfl; exact CellsOf.one))) rfl rfl)) ?_; rintro _ _ ⟨b33, rfl, rfl⟩) | ((with_reducible show RH _ _ _ ⟨_, .call ⟨.value (.func 198), _, _⟩, _, _, _, _⟩ _ _ _ _); refine RH.cL Try.call198 ?_; apply Exists.intro; apply And.intro; (focus ((repeat (first | exact LVs.nil | (apply LVs.sl; (with_reducible repeat (first | exact Has.head | apply Has.tail)); exact inferInstance; exact rfl) | apply LVs.agg | apply LVs.refl)); done)); refine ⟨_, hC, (by intro r H h; first | (obtain ⟨rfl, rfl⟩ := h; exact ⟨inferInstance, inferInstance⟩) | (obtain ⟨_, rfl, rfl⟩ := h; exact ⟨inferInstance, inferInstance⟩) | (obtain ⟨_, _, rfl, rfl⟩ := h; exact ⟨inferInstance, inferInstance⟩) | (obtain ⟨_, _, rfl, rfl, _⟩ := h; exact ⟨inferInstance, inferInstance⟩)), ?_⟩; rintro _ _ ⟨s39, rfl, rfl⟩; refine RL.nm ?_) | ((with_reducible show RH _ _ _ _ _ _ _ _); refine RH.val (hK := ?_)) | (with_reducible show RL _ _ _ (_ :: _) _ _ _; refine RL.guardNoS rfl rfl rfl rfl rfl rfl ?_) | (with_reducible first | refine Run.seq ?_ | refine Run.region ?_ | refine Run.block ?_ | refine Run.skip ?_ | refine Run.exit ?_ | refine Run.ret ?_) | (with_reducible show Run _ _ (.cond _ _ _) _ _ _; first | refine Run.condF rfl ?_ | refine Run.condD rfl (fun h => ?_) (fun h => ?_)) | (with_reducible first | refine seqN (K := Run _ _ _ _) ?_ | refine seqE ?_ | refine blockE ?_))
      all_goals first
        | (exfalso; omega)
        | (refine ⟨eA, _, [hsl (tS tInt) (vsv (some ⟨b22, 0, none⟩, 0, 0)) []], resA, ?_, ?_⟩
           · exact SEnt.ch chA
           · exact ⟨_, rfl, rfl⟩)
    | some g =>
      rw [hO] at hfit hC
      (try dsimp only at hfit)
      replace hC := hC.mono (R' := fun r S' => ∃ s : Sv, r = vtup [vlit (vsv s), vbool true] ∧ S' = [hsl tInt (vsv s) g]) (fun r S' h => h)
      obtain ⟨hgo, _⟩ := clF_ok hh.prs hmo hO
      have hglen := hgo.len
      have hrec := fun (bs : Nat) (s39 sv0 : Sv) => walk_c (j : Int) m2 os os2 into onto bs most hh hm1 (j + 1) g (0, []) s39 sv0 (by have := hgo.few; omega) hgo (by simp [okS, hm0])
      obtain ⟨T, hT⟩ : ∃ T, srF (fitF (j : Int) m2 (os.zip os2) into) (goodO onto m2) most m2 (j + 1) g (0, []) = T := ⟨_, rfl⟩
      have e0 : ((0 : Nat) : Int) = 0 := rfl
      simp only [hT, e0] at hrec
      cases into with
      | false =>
        simp only [Bool.false_and, Bool.false_eq_true, if_false] at hfit
        rw [hfit]
        simp only [hT]
        repeat' (first | (with_reducible refine RL.done ?_) | (with_reducible refine RL.wanted ?_ ?_; exact rfl) | ((with_reducible show Run _ _ (.region 10 _ true) _ _ _); refine Run.regionD (fun i => false) rfl ?_; change RD _ _ _ _ _ _ 11 (dm 11 0) _ _) | ((with_reducible show RD _ _ 10 _ _ _ _ _ _ _); first | ((with_reducible show RD _ _ _ _ _ _ _ (dm 11 0) _ _); refine RD.tk 0 (dm 11 1550) (dm 11 1) (hK := ?_)) | ((with_reducible show RD _ _ _ _ _ _ _ (dm 11 1) _ _); refine RD.tk 1 (dm 11 1548) (dm 11 3) (hK := ?_)) | ((with_reducible show RD _ _ _ _ _ _ _ (dm 11 3) _ _); refine RD.tk 2 (dm 11 1544) (dm 11 7) (hK := ?_)) | ((with_reducible show RD _ _ _ _ _ _ _ (dm 11 7) _ _); refine RD.tk 3 (dm 11 1536) (dm 11 15) (hK := ?_)) | ((with_reducible show RD _ _ _ _ _ _ _ (dm 11 15) _ _); refine RD.tk 4 (dm 11 1504) (dm 11 31) (hK := ?_)) | ((with_reducible show RD _ _ _ _ _ _ _ (dm 11 31) _ _); refine RD.tk 5 (dm 11 1472) (dm 11 63) (hK := ?_)) | ((with_reducible show RD _ _ _ _ _ _ _ (dm 11 63) _ _); refine RD.tk 6 (dm 11 1408) (dm 11 127) (hK := ?_)) | ((with_reducible show RD _ _ _ _ _ _ _ (dm 11 127) _ _); refine RD.tk 7 (dm 11 1280) (dm 11 255) (hK := ?_)) | ((with_reducible show RD _ _ _ _ _ _ _ (dm 11 255) _ _); refine RD.tk 8 (dm 11 1024) (dm 11 511) (hK := ?_)) | ((with_reducible show RD _ _ _ _ _ _ _ (dm 11 511) _ _); refine RD.tk 9 (dm 11 1024) (dm 11 1023) (hK := ?_)) | ((with_reducible show RD _ _ _ _ _ _ _ (dm 11 1023) _ _); refine RD.tk 10 (dm 11 0) (dm 11 2047) (hK := ?_)) | ((with_reducible show RD _ _ _ _ _ _ 0 _ _ _); refine RD.done (by kernel_rfl) ?_)) | ((with_reducible show RH _ _ _ ⟨some 33, .buildSlice _ _ _, _, _, _, _⟩ _ _ _ _); refine RH.eff rfl rfl (EOpS.e (EOpS.slit (fun x : Int => [vint x]) _ (fun _ _ => rfl) (by repeat (first | exact Elts.nil | (apply Elts.cons; exact rfl; exact CellsOf.one))) rfl rfl)) ?_; rintro _ _ ⟨b33, rfl, rfl⟩) | ((with_reducible show RH _ _ _ ⟨_, .call ⟨.value (.func 198), _, _⟩, _, _, _, _⟩ _ _ _ _); refine RH.cL Try.call198 ?_; apply Exists.intro; apply And.intro; (focus ((repeat (first | exact LVs.nil | (apply LVs.sl; (with_reducible repeat (first | exact Has.head | apply Has.tail)); exact inferInstance; exact rfl) | apply LVs.agg | apply LVs.refl)); done)); refine ⟨_, hC, (by intro r H h; first | (obtain ⟨rfl, rfl⟩ := h; exact ⟨inferInstance, inferInstance⟩) | (obtain ⟨_, rfl, rfl⟩ := h; exact ⟨inferInstance, inferInstance⟩) | (obtain ⟨_, _, rfl, rfl⟩ := h; exact ⟨inferInstance, inferInstance⟩) | (obtain ⟨_, _, rfl, rfl, _⟩ := h; exact ⟨inferInstance, inferInstance⟩)), ?_⟩; rintro _ _ ⟨s39, rfl, rfl⟩; refine RL.nm ?_) | ((with_reducible show RH _ _ _ ⟨_, .call ⟨.value (.func 200), _, _⟩, _, _, _, _⟩ _ _ _ _); refine RH.cW Try.call200 ?_; refine ⟨_, _, _, (by repeat (first | exact Pick.nil | (apply Pick.cons; (with_reducible repeat (first | exact Rem.head | apply Rem.tail))))), hrec _ _ _, ?_⟩; rintro _ _ ⟨sv2, rfl, rfl⟩; refine RL.nm ?_) | ((with_reducible show RH _ _ _ _ _ _ _ _); refine RH.val (hK := ?_)) | (with_reducible show RL _ _ _ (_ :: _) _ _ _; first | refine RL.guardYes rfl rfl rfl rfl ?_ | refine RL.guardNoS rfl rfl rfl rfl rfl rfl ?_) | (with_reducible first | refine Run.seq ?_ | refine Run.region ?_ | refine Run.block ?_ | refine Run.skip ?_ | refine Run.exit ?_ | refine Run.ret ?_) | (with_reducible show Run _ _ (.cond _ _ _) _ _ _; first | refine Run.condT rfl ?_ | refine Run.condD rfl (fun h => ?_) (fun h => ?_)) | (with_reducible first | refine seqN (K := Run _ _ _ _) ?_ | refine seqE ?_ | refine blockE ?_))
        all_goals first
          | (exfalso; omega)
          | (refine ⟨eA, _, [hsl (tS tInt) (vsv sv2) T.2], resA, ?_, ?_⟩
             · exact SEnt.ch chA
             · exact ⟨sv2, congrArg (fun b => vtup [vlit (vsv sv2), vbool b]) (decide_eq_decide.2 (by omega)), rfl⟩)
      | true =>
        have hinW := fun (q : Sv) => l7Into_c q g (by omega)
        cases hin : intoB g with
        | true =>
          rw [hin] at hfit hinW
          simp only [Bool.not_true, Bool.and_false, Bool.false_eq_true, if_false] at hfit
          rw [hfit]
          simp only [hT]
          repeat' (first | (with_reducible refine RL.done ?_) | (with_reducible refine RL.wanted ?_ ?_; exact rfl) | ((with_reducible show Run _ _ (.region 10 _ true) _ _ _); refine Run.regionD (fun i => false) rfl ?_; change RD _ _ _ _ _ _ 11 (dm 11 0) _ _) | ((with_reducible show RD _ _ 10 _ _ _ _ _ _ _); first | ((with_reducible show RD _ _ _ _ _ _ _ (dm 11 0) _ _); refine RD.tk 0 (dm 11 1550) (dm 11 1) (hK := ?_)) | ((with_reducible show RD _ _ _ _ _ _ _ (dm 11 1) _ _); refine RD.tk 1 (dm 11 1548) (dm 11 3) (hK := ?_)) | ((with_reducible show RD _ _ _ _ _ _ _ (dm 11 3) _ _); refine RD.tk 2 (dm 11 1544) (dm 11 7) (hK := ?_)) | ((with_reducible show RD _ _ _ _ _ _ _ (dm 11 7) _ _); refine RD.tk 3 (dm 11 1536) (dm 11 15) (hK := ?_)) | ((with_reducible show RD _ _ _ _ _ _ _ (dm 11 15) _ _); refine RD.tk 4 (dm 11 1504) (dm 11 31) (hK := ?_)) | ((with_reducible show RD _ _ _ _ _ _ _ (dm 11 31) _ _); refine RD.tk 5 (dm 11 1472) (dm 11 63) (hK := ?_)) | ((with_reducible show RD _ _ _ _ _ _ _ (dm 11 63) _ _); refine RD.tk 6 (dm 11 1408) (dm 11 127) (hK := ?_)) | ((with_reducible show RD _ _ _ _ _ _ _ (dm 11 127) _ _); refine RD.tk 7 (dm 11 1280) (dm 11 255) (hK := ?_)) | ((with_reducible show RD _ _ _ _ _ _ _ (dm 11 255) _ _); refine RD.tk 8 (dm 11 1024) (dm 11 511) (hK := ?_)) | ((with_reducible show RD _ _ _ _ _ _ _ (dm 11 511) _ _); refine RD.tk 9 (dm 11 1024) (dm 11 1023) (hK := ?_)) | ((with_reducible show RD _ _ _ _ _ _ _ (dm 11 1023) _ _); refine RD.tk 10 (dm 11 0) (dm 11 2047) (hK := ?_)) | ((with_reducible show RD _ _ _ _ _ _ 0 _ _ _); refine RD.done (by kernel_rfl) ?_)) | ((with_reducible show RH _ _ _ ⟨some 33, .buildSlice _ _ _, _, _, _, _⟩ _ _ _ _); refine RH.eff rfl rfl (EOpS.e (EOpS.slit (fun x : Int => [vint x]) _ (fun _ _ => rfl) (by repeat (first | exact Elts.nil | (apply Elts.cons; exact rfl; exact CellsOf.one))) rfl rfl)) ?_; rintro _ _ ⟨b33, rfl, rfl⟩) | ((with_reducible show RH _ _ _ ⟨_, .call ⟨.value (.func 198), _, _⟩, _, _, _, _⟩ _ _ _ _); refine RH.cL Try.call198 ?_; apply Exists.intro; apply And.intro; (focus ((repeat (first | exact LVs.nil | (apply LVs.sl; (with_reducible repeat (first | exact Has.head | apply Has.tail)); exact inferInstance; exact rfl) | apply LVs.agg | apply LVs.refl)); done)); refine ⟨_, hC, (by intro r H h; first | (obtain ⟨rfl, rfl⟩ := h; exact ⟨inferInstance, inferInstance⟩) | (obtain ⟨_, rfl, rfl⟩ := h; exact ⟨inferInstance, inferInstance⟩) | (obtain ⟨_, _, rfl, rfl⟩ := h; exact ⟨inferInstance, inferInstance⟩) | (obtain ⟨_, _, rfl, rfl, _⟩ := h; exact ⟨inferInstance, inferInstance⟩)), ?_⟩; rintro _ _ ⟨s39, rfl, rfl⟩; refine RL.nm ?_) | ((with_reducible show RH _ _ _ ⟨_, .call ⟨.value (.func 199), _, _⟩, _, _, _, _⟩ _ _ _ _); refine RH.cW Try.call199 ?_; refine ⟨_, _, _, (by repeat (first | exact Pick.nil | (apply Pick.cons; (with_reducible repeat (first | exact Rem.head | apply Rem.tail))))), hinW _, ?_⟩; rintro _ _ ⟨rfl, rfl⟩; refine RL.nm ?_) | ((with_reducible show RH _ _ _ ⟨_, .call ⟨.value (.func 200), _, _⟩, _, _, _, _⟩ _ _ _ _); refine RH.cW Try.call200 ?_; refine ⟨_, _, _, (by repeat (first | exact Pick.nil | (apply Pick.cons; (with_reducible repeat (first | exact Rem.head | apply Rem.tail))))), hrec _ _ _, ?_⟩; rintro _ _ ⟨sv2, rfl, rfl⟩; refine RL.nm ?_) | ((with_reducible show RH _ _ _ _ _ _ _ _); refine RH.val (hK := ?_)) | (with_reducible show RL _ _ _ (_ :: _) _ _ _; refine RL.guardYes rfl rfl rfl rfl ?_) | (with_reducible first | refine Run.seq ?_ | refine Run.region ?_ | refine Run.block ?_ | refine Run.skip ?_ | refine Run.exit ?_ | refine Run.ret ?_) | (with_reducible show Run _ _ (.cond _ _ _) _ _ _; first | refine Run.condT rfl ?_ | refine Run.condD rfl (fun h => ?_) (fun h => ?_)) | (with_reducible first | refine seqN (K := Run _ _ _ _) ?_ | refine seqE ?_ | refine blockE ?_))
          all_goals first
            | (exfalso; omega)
            | (refine ⟨eA, _, [hsl (tS tInt) (vsv sv2) T.2], resA, ?_, ?_⟩
               · exact SEnt.ch chA
               · exact ⟨sv2, congrArg (fun b => vtup [vlit (vsv sv2), vbool b]) (decide_eq_decide.2 (by omega)), rfl⟩)
        | false =>
          rw [hin] at hfit hinW
          simp only [Bool.not_false, Bool.and_true, if_true] at hfit
          rw [hfit]
          repeat' (first | (with_reducible refine RL.done ?_) | (with_reducible refine RL.wanted ?_ ?_; exact rfl) | ((with_reducible show Run _ _ (.region 10 _ true) _ _ _); refine Run.regionD (fun i => false) rfl ?_; change RD _ _ _ _ _ _ 11 (dm 11 0) _ _) | ((with_reducible show RD _ _ 10 _ _ _ _ _ _ _); first | ((with_reducible show RD _ _ _ _ _ _ _ (dm 11 0) _ _); refine RD.tk 0 (dm 11 1550) (dm 11 1) (hK := ?_)) | ((with_reducible show RD _ _ _ _ _ _ _ (dm 11 1) _ _); refine RD.tk 1 (dm 11 1548) (dm 11 3) (hK := ?_)) | ((with_reducible show RD _ _ _ _ _ _ _ (dm 11 3) _ _); refine RD.tk 2 (dm 11 1544) (dm 11 7) (hK := ?_)) | ((with_reducible show RD _ _ _ _ _ _ _ (dm 11 7) _ _); refine RD.tk 3 (dm 11 1536) (dm 11 15) (hK := ?_)) | ((with_reducible show RD _ _ _ _ _ _ _ (dm 11 15) _ _); refine RD.tk 4 (dm 11 1504) (dm 11 31) (hK := ?_)) | ((with_reducible show RD _ _ _ _ _ _ _ (dm 11 31) _ _); refine RD.tk 5 (dm 11 1472) (dm 11 63) (hK := ?_)) | ((with_reducible show RD _ _ _ _ _ _ _ (dm 11 63) _ _); refine RD.tk 6 (dm 11 1408) (dm 11 127) (hK := ?_)) | ((with_reducible show RD _ _ _ _ _ _ _ (dm 11 127) _ _); refine RD.tk 7 (dm 11 1280) (dm 11 255) (hK := ?_)) | ((with_reducible show RD _ _ _ _ _ _ _ (dm 11 255) _ _); refine RD.tk 8 (dm 11 1024) (dm 11 511) (hK := ?_)) | ((with_reducible show RD _ _ _ _ _ _ _ (dm 11 511) _ _); refine RD.tk 9 (dm 11 1024) (dm 11 1023) (hK := ?_)) | ((with_reducible show RD _ _ _ _ _ _ _ (dm 11 1023) _ _); refine RD.tk 10 (dm 11 0) (dm 11 2047) (hK := ?_)) | ((with_reducible show RD _ _ _ _ _ _ 0 _ _ _); refine RD.done (by kernel_rfl) ?_)) | ((with_reducible show RH _ _ _ ⟨some 33, .buildSlice _ _ _, _, _, _, _⟩ _ _ _ _); refine RH.eff rfl rfl (EOpS.e (EOpS.slit (fun x : Int => [vint x]) _ (fun _ _ => rfl) (by repeat (first | exact Elts.nil | (apply Elts.cons; exact rfl; exact CellsOf.one))) rfl rfl)) ?_; rintro _ _ ⟨b33, rfl, rfl⟩) | ((with_reducible show RH _ _ _ ⟨_, .call ⟨.value (.func 198), _, _⟩, _, _, _, _⟩ _ _ _ _); refine RH.cL Try.call198 ?_; apply Exists.intro; apply And.intro; (focus ((repeat (first | exact LVs.nil | (apply LVs.sl; (with_reducible repeat (first | exact Has.head | apply Has.tail)); exact inferInstance; exact rfl) | apply LVs.agg | apply LVs.refl)); done)); refine ⟨_, hC, (by intro r H h; first | (obtain ⟨rfl, rfl⟩ := h; exact ⟨inferInstance, inferInstance⟩) | (obtain ⟨_, rfl, rfl⟩ := h; exact ⟨inferInstance, inferInstance⟩) | (obtain ⟨_, _, rfl, rfl⟩ := h; exact ⟨inferInstance, inferInstance⟩) | (obtain ⟨_, _, rfl, rfl, _⟩ := h; exact ⟨inferInstance, inferInstance⟩)), ?_⟩; rintro _ _ ⟨s39, rfl, rfl⟩; refine RL.nm ?_) | ((with_reducible show RH _ _ _ ⟨_, .call ⟨.value (.func 199), _, _⟩, _, _, _, _⟩ _ _ _ _); refine RH.cW Try.call199 ?_; refine ⟨_, _, _, (by repeat (first | exact Pick.nil | (apply Pick.cons; (with_reducible repeat (first | exact Rem.head | apply Rem.tail))))), hinW _, ?_⟩; rintro _ _ ⟨rfl, rfl⟩; refine RL.nm ?_) | ((with_reducible show RH _ _ _ _ _ _ _ _); refine RH.val (hK := ?_)) | (with_reducible show RL _ _ _ (_ :: _) _ _ _; refine RL.guardYes rfl rfl rfl rfl ?_) | (with_reducible first | refine Run.seq ?_ | refine Run.region ?_ | refine Run.block ?_ | refine Run.skip ?_ | refine Run.exit ?_ | refine Run.ret ?_) | (with_reducible show Run _ _ (.cond _ _ _) _ _ _; first | refine Run.condF rfl ?_ | refine Run.condD rfl (fun h => ?_) (fun h => ?_)) | (with_reducible first | refine seqN (K := Run _ _ _ _) ?_ | refine seqE ?_ | refine blockE ?_))
          all_goals first
            | (exfalso; omega)
            | (refine ⟨eA, _, [hsl (tS tInt) (vsv (some ⟨b22, 0, none⟩, 0, 0)) []], resA, ?_, ?_⟩
               · exact SEnt.ch chA
               · exact ⟨_, rfl, rfl⟩)
set_option maxRecDepth 10000 in
set_option maxHeartbeats 1000000 in
theorem l7Auts_c (N : Nat) (os : List (Int × List Int)) (hh : HomOk (N : Int) N os os) :
    Spec Try.prog 101 [vagg [vint (N : Int), vsl 2 (fun y : Int × (List Int) => [vint y.1, vsl 1 (fun x : Int => [vint x]) y.2]) os]] [] (LstRes (homsV (homS (N : Int) os N os true (goodO false N) 301))) := by
  have hF := l7Find_c N N os os true false 301 hh (by decide) (by decide)
  obtain ⟨T, hT⟩ : ∃ T, homS (N : Int) os N os true (goodO false N) 301 = T := ⟨_, rfl⟩
  rw [hT] at hF ⊢
  have e1 : ((301 : Nat) : Int) = 301 := rfl
  rw [e1] at hF
  refine Spec.of_run2 (n := 21) Try.func101 rfl Try.results101 Try.ntmps101 rfl ?_
  by_cases h1 : T.1 ≤ 5000
  · by_cases h2 : T.2.length ≤ 300
    · have e : homsV T = some T.2 := if_pos ⟨h1, h2⟩
      rw [e]
      repeat' (first | (with_reducible first | refine RL.done ?_ | refine RL.app1 ?_) | (with_reducible refine RL.wanted ?_ ?_; exact rfl) | ((with_reducible show RH _ _ _ ⟨some 1, .box _ _, _, _, _, _⟩ _ _ _ _); (refine RH.boxAgg rfl rfl ?_; rintro _ _ ⟨b1, rfl, rfl⟩)) | ((with_reducible show RH _ _ _ ⟨some 19, .buildSlice _ _ _, _, _, _, _⟩ _ _ _ _); (refine RH.eff rfl rfl (EOpS.e (EOpS.slitV (by ((repeat (first | exact Elts.nil | apply Elts.one1 rfl | apply Elts.agg2 rfl)); done)) (by simp) rfl rfl)) ?_; rintro _ _ ⟨b19, rfl, rfl⟩)) | ((with_reducible show RH _ _ _ ⟨_, .call ⟨.value (.func 161), _, _⟩, _, _, _, _⟩ _ _ _ _); refine RH.cP Try.call161 ?_; refine ⟨_, hF, ?_⟩; rintro _ _ ⟨s9, rfl, rfl⟩) | ((with_reducible show RH _ _ _ _ _ _ _ _); refine RH.val (hK := ?_)) | (with_reducible show RL _ _ _ (_ :: _) _ _ _; first | refine RL.guardYes rfl rfl rfl rfl ?_ | refine RL.guardNoS rfl rfl rfl rfl rfl rfl ?_ | refine RL.splitND rfl rfl rfl (fun h => ?_) (fun h => ?_)) | (with_reducible first | refine Run.seq ?_ | refine Run.region ?_ | refine Run.skip ?_ | refine Run.ret ?_) | (with_reducible show Run _ _ (.cond _ _ _) _ _ _; first | refine Run.condT rfl ?_ | refine Run.condD rfl (fun h => ?_) (fun h => ?_)) | (with_reducible first | refine seqN (K := Run _ _ _ _) ?_ | refine seqR ?_))
      all_goals first
        | (exfalso; omega)
        | (refine ⟨eA, _, [hsl (tS tInt) (vsv s9) T.2], resA, ?_, ?_⟩
           · exact SEnt.ch chA
           · exact ⟨s9, rfl, rfl⟩)
    · have e : homsV T = none := if_neg (fun h => h2 h.2)
      rw [e]
      repeat' (first | (with_reducible first | refine RL.done ?_ | refine RL.app1 ?_) | (with_reducible refine RL.wanted ?_ ?_; exact rfl) | ((with_reducible show RH _ _ _ ⟨some 1, .box _ _, _, _, _, _⟩ _ _ _ _); (refine RH.boxAgg rfl rfl ?_; rintro _ _ ⟨b1, rfl, rfl⟩)) | ((with_reducible show RH _ _ _ ⟨some 19, .buildSlice _ _ _, _, _, _, _⟩ _ _ _ _); (refine RH.eff rfl rfl (EOpS.e (EOpS.slitV (by ((repeat (first | exact Elts.nil | apply Elts.one1 rfl | apply Elts.agg2 rfl)); done)) (by simp) rfl rfl)) ?_; rintro _ _ ⟨b19, rfl, rfl⟩)) | ((with_reducible show RH _ _ _ ⟨_, .call ⟨.value (.func 161), _, _⟩, _, _, _, _⟩ _ _ _ _); refine RH.cP Try.call161 ?_; refine ⟨_, hF, ?_⟩; rintro _ _ ⟨s9, rfl, rfl⟩) | ((with_reducible show RH _ _ _ _ _ _ _ _); refine RH.val (hK := ?_)) | (with_reducible show RL _ _ _ (_ :: _) _ _ _; first | refine RL.guardYes rfl rfl rfl rfl ?_ | refine RL.guardNoS rfl rfl rfl rfl rfl rfl ?_ | refine RL.splitND rfl rfl rfl (fun h => ?_) (fun h => ?_)) | (with_reducible first | refine Run.seq ?_ | refine Run.region ?_ | refine Run.skip ?_ | refine Run.ret ?_) | (with_reducible show Run _ _ (.cond _ _ _) _ _ _; first | refine Run.condT rfl ?_ | refine Run.condD rfl (fun h => ?_) (fun h => ?_)) | (with_reducible first | refine seqN (K := Run _ _ _ _) ?_ | refine seqR ?_))
      all_goals first
        | (exfalso; omega)
        | (refine ⟨eA, _, [hsl (tS tInt) (vsv (some ⟨b19, 0, none⟩, 0, 0)) []], resA, ?_, ?_⟩
           · exact (SEnt.ch (.cons .head rfl .nil)).trans (SEnt.packNil (tS tInt) rfl)
           · exact ⟨_, rfl, rfl⟩)
  · have e : homsV T = none := if_neg (fun h => h1 h.1)
    rw [e]
    repeat' (first | (with_reducible first | refine RL.done ?_ | refine RL.app1 ?_) | (with_reducible refine RL.wanted ?_ ?_; exact rfl) | ((with_reducible show RH _ _ _ ⟨some 1, .box _ _, _, _, _, _⟩ _ _ _ _); (refine RH.boxAgg rfl rfl ?_; rintro _ _ ⟨b1, rfl, rfl⟩)) | ((with_reducible show RH _ _ _ ⟨some 19, .buildSlice _ _ _, _, _, _, _⟩ _ _ _ _); (refine RH.eff rfl rfl (EOpS.e (EOpS.slitV (by ((repeat (first | exact Elts.nil | apply Elts.one1 rfl | apply Elts.agg2 rfl)); done)) (by simp) rfl rfl)) ?_; rintro _ _ ⟨b19, rfl, rfl⟩)) | ((with_reducible show RH _ _ _ ⟨_, .call ⟨.value (.func 161), _, _⟩, _, _, _, _⟩ _ _ _ _); refine RH.cP Try.call161 ?_; refine ⟨_, hF, ?_⟩; rintro _ _ ⟨s9, rfl, rfl⟩) | ((with_reducible show RH _ _ _ _ _ _ _ _); refine RH.val (hK := ?_)) | (with_reducible show RL _ _ _ (_ :: _) _ _ _; first | refine RL.guardYes rfl rfl rfl rfl ?_ | refine RL.guardNoS rfl rfl rfl rfl rfl rfl ?_ | refine RL.splitND rfl rfl rfl (fun h => ?_) (fun h => ?_)) | (with_reducible first | refine Run.seq ?_ | refine Run.region ?_ | refine Run.skip ?_ | refine Run.ret ?_) | (with_reducible show Run _ _ (.cond _ _ _) _ _ _; first | refine Run.condT rfl ?_ | refine Run.condD rfl (fun h => ?_) (fun h => ?_)) | (with_reducible first | refine seqN (K := Run _ _ _ _) ?_ | refine seqR ?_))
    all_goals first
      | (exfalso; omega)
      | (refine ⟨eA, _, [hsl (tS tInt) (vsv (some ⟨b19, 0, none⟩, 0, 0)) []], resA, ?_, ?_⟩
         · exact (SEnt.ch (.cons .head rfl .nil)).trans (SEnt.packNil (tS tInt) rfl)
         · exact ⟨_, rfl, rfl⟩)
end Go.Proofs.Ytejeeokjjbiadaa
