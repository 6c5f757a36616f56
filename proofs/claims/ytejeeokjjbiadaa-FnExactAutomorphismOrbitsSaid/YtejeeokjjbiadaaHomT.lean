/- The results of a search for homomorphisms, on impl's side: searchHoms, listHoms, firstHom, what they hand to the search. Proved for this program; conditions: valid algebras of one type. -/
import Derived.Test.YtejeeokjjbiadaaHomS
namespace Go.Proofs.Ytejeeokjjbiadaa
open Go Go.Proofs
set_option linter.unusedVariables false

theorem homS_eq (N m2 : Nat) (os os2 : List (Int × List Int)) (into : Bool) (good : List Int → Bool) (most : Nat) : homS (N : Int) os (m2 : Int) os2 into good most = match fitF (N : Int) m2 (os.zip os2) into (List.replicate N (-1)) with
    | none => (0, [])
    | some g => srF (fitF (N : Int) m2 (os.zip os2) into) good most m2 (N + 1) g (0, []) := rfl
theorem mapNew (N m2 : Nat) : MapOk (N : Int) m2 (List.replicate N (-1)) := ⟨by simp, fun x hx => by obtain ⟨_, rfl⟩ := List.mem_replicate.1 hx; omega⟩
theorem fill_set {α : Type} (x y : α) (N j : Nat) (h : j < N) : (List.replicate j x ++ List.replicate (N - j) y).set j x = List.replicate (j + 1) x ++ List.replicate (N - (j + 1)) y := by
  have e : N - j = (N - (j + 1)) + 1 := by omega
  rw [List.set_append_right _ _ (by simp), List.length_replicate, Nat.sub_self, e, List.replicate_succ, List.set_cons_zero, List.replicate_succ', List.append_assoc]
  rfl
set_option maxRecDepth 10000 in
set_option maxHeartbeats 4000000 in
theorem searchHoms_c (N m2 : Nat) (os os2 : List (Int × List Int)) (into : Bool) (hh : HomOk (N : Int) m2 os os2) (fk : FuncId) (vs : List Value) (J : List (List Int) → HP) (good : List Int → Bool) (most : Nat) (hmost : 0 < most) (hE : Enters Try.prog fk) (hfound : FoundOk fk vs J good most (N : Int) m2) :
    Spec Try.prog 201 [vagg [vint (N : Int), vsl 2 (fun y : Int × (List Int) => [vint y.1, vsl 1 (fun x : Int => [vint x]) y.2]) os], vagg [vint (m2 : Int), vsl 2 (fun y : Int × (List Int) => [vint y.1, vsl 1 (fun x : Int => [vint x]) y.2]) os2], vbool into, vlit (.func (.func fk) #[] vs.toArray)] [J []] (fun r S' => r = vbool (decide ((homS (N : Int) os m2 os2 into good most).1 ≤ 5000)) ∧ S' = [J (homS (N : Int) os m2 os2 into good most).2]) := by
  have hn8 := hh.n8
  have hmo := mapNew N m2
  have hfits := fun (bs : Nat) (sf : Sv) => fits_c N m2 os os2 into bs 0 (.func (.func fk) #[] vs.toArray) sf (List.replicate N (-1)) hh hmo
  rw [homS_eq]
  refine Spec.of_run2 (n := 41) Try.func201 rfl Try.results201 Try.ntmps201 rfl ?_
  repeat' (first | (with_reducible refine RL.done ?_) | (with_reducible refine RL.wanted ?_ ?_; exact rfl) | ((with_reducible show RH _ _ _ ⟨some 4, .box _ _, _, _, _, _⟩ _ _ _ _); (refine RH.boxAgg rfl rfl ?_; rintro _ _ ⟨b4, rfl, rfl⟩)) | ((with_reducible show RH _ _ _ ⟨some 5, .box _ _, _, _, _, _⟩ _ _ _ _); (refine RH.boxAgg rfl rfl ?_; rintro _ _ ⟨b5, rfl, rfl⟩)) | ((with_reducible show RH _ _ _ ⟨some 17, .box _ _, _, _, _, _⟩ _ _ _ _); (refine RH.boxAgg rfl rfl ?_; rintro _ _ ⟨b17, rfl, rfl⟩)) | ((with_reducible show RH _ _ _ ⟨some 20, .makeSlice _ _ _, _, _, _, _⟩ _ _ _ _); refine RH.make (α := Int) rfl (fun x => [vint x]) 0 (fun c => .cons rfl .nil) rfl rfl (by omega) (by omega) (by omega) ?_; rintro _ _ ⟨b20, rfl, rfl⟩) | ((with_reducible show RH _ _ _ _ _ _ _ _); refine RH.val (hK := ?_)) | (with_reducible first | refine Run.seq ?_ | refine Run.region ?_ | refine Run.block ?_) | (with_reducible refine seqN (K := Run _ _ _ _) ?_))
  refine Run.loop (α := Nat) (fun j => [(2, vbool into), (9, vptr b17 0), (10, vsb b20 N N), (22, vint (N : Int)), (23, vint (j : Int))]) (fun j => [harr b20 1 (fun x : Int => [vint x]) (List.replicate j (-1) ++ List.replicate (N - j) 0) (N * 1), hscells b17 (N : Int) m2 os os2 into 0 (.func (.func fk) #[] vs.toArray), J []]) (fun j => j ≤ N) (fun j => N - j) 0 (by simp) (Ent.of slA (.cons .head (by simp) chA)) ?_
  intro j hj
  have hll : (List.replicate j (-1 : Int) ++ List.replicate (N - j) 0).length = N := by simp; omega
  rcases Nat.lt_or_eq_of_le hj with h9 | rfl
  · repeat' (first | (with_reducible refine RL.done ?_) | (with_reducible refine RL.wanted ?_ ?_; exact rfl) | ((with_reducible show RH _ _ _ _ _ _ _ _); first | refine RH.val (hK := ?_) | refine RH.upd (hK := ?_)) | (with_reducible first | refine Run.seq ?_ | refine Run.region ?_ | refine Run.block ?_ | refine Run.skip ?_ | refine Run.exit ?_) | (with_reducible show Run _ _ (.cond _ _ _) _ _ _; refine Run.condD rfl (fun h => ?_) (fun h => ?_)) | (with_reducible first | refine seqN (K := Run _ _ _ _) ?_ | refine seqE ?_ | refine blockN ?_ | refine blockE ?_))
    all_goals first
      | (exfalso; omega)
      | (with_reducible refine seqN ?_
         exact ⟨j + 1, by omega, by omega, Ent.of slA (.cons .head (congrArg (fun ys => harr b20 1 (fun x : Int => [vint x]) ys (N * 1)) (fill_set (-1 : Int) 0 N j h9)) chA)⟩)
  · refine Run.sent (T := [hsl tInt (vsv (some ⟨b20, 0, none⟩, j, j)) (List.replicate j (-1)), hscells b17 (j : Int) m2 os os2 into 0 (.func (.func fk) #[] vs.toArray), J []]) ((SEnt.ch (.cons .head (by simp) (.cons .head rfl (.cons .head rfl .nil)))).trans (SEnt.pack (fun _ => rfl) (by simp))) ?_
    cases hfo : fitF (j : Int) m2 (os.zip os2) into (List.replicate j (-1)) with
    | none =>
      rw [hfo] at hfits
      repeat' (first | (with_reducible refine RL.done ?_) | (with_reducible refine RL.wanted ?_ ?_; exact rfl) | ((with_reducible show RH _ _ _ ⟨_, .call ⟨.value (.func 215), _, _⟩, _, _, _, _⟩ _ _ _ _); refine RH.cW Try.call215 ?_; refine ⟨_, _, _, (by repeat (first | exact Pick.nil | (apply Pick.cons; (with_reducible repeat (first | exact Rem.head | apply Rem.tail))))), hfits b17 (some ⟨b20, 0, none⟩, _, _), ?_⟩; rintro _ _ ⟨g1, rfl, rfl, hg1⟩; refine RL.nm ?_) | ((with_reducible show RH _ _ _ _ _ _ _ _); first | refine RH.val (hK := ?_) | refine RH.upd (hK := ?_)) | (with_reducible first | refine Run.seq ?_ | refine Run.region ?_ | refine Run.block ?_ | refine Run.skip ?_ | refine Run.exit ?_ | refine Run.ret ?_) | (with_reducible show Run _ _ (.cond _ _ _) _ _ _; first | refine Run.condF rfl ?_ | refine Run.condD rfl (fun h => ?_) (fun h => ?_)) | (with_reducible first | refine seqN (K := Run _ _ _ _) ?_ | refine seqE ?_ | refine blockN ?_ | refine blockE ?_))
      all_goals first
        | (exfalso; omega)
        | (exfalso; exact absurd (by assumption : ¬ _) (by decide))
        | (refine ⟨eA, _, [J []], resA, ?_, ?_⟩
           · exact SEnt.ch chA
           · exact ⟨rfl, rfl⟩)
    | some g =>
      (try dsimp only)
      obtain ⟨hgo, _⟩ := fitF_ok hh.prs hmo hfo
      rw [hfo] at hfits
      replace hfits := fun (bs : Nat) (sf : Sv) => (hfits bs sf).mono (R' := fun r S' => r = vbool true ∧ S' = [hscells bs (j : Int) m2 os os2 into 0 (.func (.func fk) #[] vs.toArray), hsl tInt (vsv sf) g]) (fun r S' ⟨g', h1, h2, h3⟩ => ⟨h1, by rw [h2, h3 _ rfl]⟩)
      have hext := fun (bs : Nat) (sf : Sv) => extend_c (j : Int) m2 os os2 into bs hh fk vs J good most hE hfound (j + 1) g (0, []) sf (by have := hgo.few; omega) hgo (by simp [okS, hmost])
      obtain ⟨T, hT⟩ : ∃ T, srF (fitF (j : Int) m2 (os.zip os2) into) good most m2 (j + 1) g (0, []) = T := ⟨_, rfl⟩
      have e0 : ((0 : Nat) : Int) = 0 := rfl
      simp only [hT, e0] at hext ⊢
      repeat' (first | (with_reducible refine RL.done ?_) | (with_reducible refine RL.wanted ?_ ?_; exact rfl) | ((with_reducible show RH _ _ _ ⟨_, .call ⟨.value (.func 215), _, _⟩, _, _, _, _⟩ _ _ _ _); refine RH.cW Try.call215 ?_; refine ⟨_, _, _, (by repeat (first | exact Pick.nil | (apply Pick.cons; (with_reducible repeat (first | exact Rem.head | apply Rem.tail))))), hfits b17 (some ⟨b20, 0, none⟩, _, _), ?_⟩; rintro _ _ ⟨rfl, rfl⟩; refine RL.nm ?_) | ((with_reducible show RH _ _ _ ⟨_, .call ⟨.value (.func 216), _, _⟩, _, _, _, _⟩ _ _ _ _); refine RH.cW Try.call216 ?_; refine ⟨_, _, _, (by repeat (first | exact Pick.nil | (apply Pick.cons; (with_reducible repeat (first | exact Rem.head | apply Rem.tail))))), hext b17 (some ⟨b20, 0, none⟩, _, _), ?_⟩; rintro _ _ ⟨rfl, rfl⟩; refine RL.nm ?_) | ((with_reducible show RH _ _ _ _ _ _ _ _); first | refine RH.val (hK := ?_) | refine RH.upd (hK := ?_)) | (with_reducible first | refine Run.seq ?_ | refine Run.region ?_ | refine Run.block ?_ | refine Run.skip ?_ | refine Run.exit ?_ | refine Run.ret ?_) | (with_reducible show Run _ _ (.cond _ _ _) _ _ _; first | refine Run.condT rfl ?_ | refine Run.condD rfl (fun h => ?_) (fun h => ?_)) | (with_reducible first | refine seqN (K := Run _ _ _ _) ?_ | refine seqE ?_ | refine blockN ?_ | refine blockE ?_))
      all_goals first
        | (exfalso; omega)
        | (refine ⟨eA, _, [J T.2], resA, ?_, ?_⟩
           · exact SEnt.ch chA
           · exact ⟨congrArg vbool (decide_eq_decide.2 (by omega)), rfl⟩)

/-! ### all results -/
abbrev JL (bl : Nat) (L : List (List Int)) : HP := hexs fun s : Sv => hstar (hcells bl [vlit (vsv s)]) (hsl (tS tInt) (vsv s) L)
set_option maxRecDepth 10000 in
set_option maxHeartbeats 1000000 in
theorem listF_c (bl : Nat) (sf s : Sv) (f : List Int) (L : List (List Int)) (hf : f.length ≤ 8) (hL : L.length ≤ 1024) :
    Spec Try.prog 202 [vlit (vsv sf), vptr bl 0] [hsl tInt (vsv sf) f, hcells bl [vlit (vsv s)], hsl (tS tInt) (vsv s) L] (fun r S' => ∃ s' : Sv, r = vbool (decide (((L ++ [f]).length : Int) ≤ 300)) ∧ S' = [hsl tInt (vsv sf) f, hcells bl [vlit (vsv s')], hsl (tS tInt) (vsv s') (L ++ [f])]) := by
  refine Spec.of_run2 (n := 12) Try.func202 rfl Try.results202 Try.ntmps202 rfl ?_
  repeat' (first | (with_reducible refine RL.done ?_) | (with_reducible refine RL.wanted ?_ ?_; exact rfl) | ((with_reducible show Run _ _ (.region 1 _ true) _ _ _); refine Run.regionD (fun i => i == 4 || i == 5) rfl ?_; change RD _ _ _ _ _ _ 6 (dm 6 0) _ _) | ((with_reducible show RD _ _ 1 _ _ _ _ _ _ _); first | ((with_reducible show RD _ _ _ _ _ _ _ (dm 6 0) _ _); refine RD.tk 0 (dm 6 48) (dm 6 1) (hK := ?_)) | ((with_reducible show RD _ _ _ _ _ _ _ (dm 6 1) _ _); refine RD.tk 1 (dm 6 60) (dm 6 3) (hK := ?_)) | ((with_reducible show RD _ _ _ _ _ _ _ (dm 6 3) _ _); refine RD.a1 2 ?_) | ((with_reducible show RD _ _ _ _ _ _ _ (dm 6 7) _ _); refine RD.a1 3 ?_) | ((with_reducible show RD _ _ _ _ _ _ _ (dm 6 15) _ _); refine RD.a1 4 ?_) | ((with_reducible show RD _ _ _ _ _ _ _ (dm 6 31) _ _); refine RD.a1 5 ?_) | ((with_reducible show RD _ _ _ _ _ _ 0 _ _ _); refine RD.done (by kernel_rfl) ?_)) | ((with_reducible show RO _ _ 1 _ _ _ _ _ _ _ _); first | ((with_reducible show RO _ _ _ _ _ _ _ (dm 6 3) 2 _ _); (refine RO.cL (dm 6 7) Try.call93 ?_; apply Exists.intro; apply And.intro; (focus ((repeat (first | exact LVs.nil | (apply LVs.sl; (with_reducible repeat (exact Has.head)); exact inferInstance; exact rfl))); done)); refine ⟨_, clone_c f (by omega), (by intro r H h; first | (obtain ⟨rfl, rfl⟩ := h; exact ⟨inferInstance, inferInstance⟩) | (obtain ⟨_, rfl, rfl⟩ := h; exact ⟨inferInstance, inferInstance⟩) | (obtain ⟨_, _, rfl, rfl⟩ := h; exact ⟨inferInstance, inferInstance⟩) | (obtain ⟨_, _, rfl, rfl, _⟩ := h; exact ⟨inferInstance, inferInstance⟩)), ?_⟩; rintro _ _ ⟨s6, rfl, rfl⟩; refine RD.nm ?_)) | ((with_reducible show RO _ _ _ _ _ _ _ (dm 6 7) 3 _ _); (refine RO.eS (dm 6 15) (hv := by show EOpS _ _ _ _ ⟨_, .buildSlice _ _ _, _, _, _, _⟩ _; exact EOpS.slitV (by ((repeat (first | exact Elts.nil | apply Elts.one1 rfl | apply Elts.agg2 rfl)); done)) (by simp) rfl rfl) (h := ?_); rintro _ _ ⟨b7, rfl, rfl⟩)) | ((with_reducible show RO _ _ _ _ _ _ _ (dm 6 15) 4 _ _); (refine RO.h (dm 6 31) ?_; show RH _ _ _ ⟨_, _, _, _, _, _⟩ _ _ _ _)) | ((with_reducible show RO _ _ _ _ _ _ _ (dm 6 31) 5 _ _); (refine RO.h (dm 6 63) ?_; show RH _ _ _ ⟨_, _, _, _, _, _⟩ _ _ _ _))) | ((with_reducible show RH _ _ _ ⟨_, .call ⟨.builtin .append, _, _⟩, _, _, _, _⟩ _ _ _ _); (refine RH.appR rfl rfl rfl (by repeat (first | exact Pick.nil | (apply Pick.cons; (with_reducible repeat (first | exact Rem.head | apply Rem.tail))))) (by first | omega | (simp; omega)) (by first | omega | (simp; omega)) ?_); rintro _ _ ⟨s, rfl, rfl⟩) | ((with_reducible show RH _ _ _ _ _ _ _ _); first | refine RH.val (hK := ?_) | refine RH.upd (hK := ?_)) | (with_reducible first | refine Run.seq ?_ | refine Run.region ?_ | refine Run.ret ?_) | (with_reducible refine seqN (K := Run _ _ _ _) ?_))
  all_goals first
    | (refine ⟨eA, _, [hsl tInt (vsv sf) f, hcells bl [vlit (vsv s)], hsl (tS tInt) (vsv s) (L ++ [f])], resA, ?_, ?_⟩
       · exact SEnt.ch chA
       · exact ⟨_, rfl, rfl⟩)
theorem listF_ok (bl : Nat) (n n2 : Int) (hn : n ≤ 8) : FoundOk 202 [.pointer (some ⟨bl, 0, none⟩)] (JL bl) (fun _ => true) 301 n n2 := by
  intro st sf f hok hf _
  have h1 := okS_at hok
  have hl := hf.len
  refine Spec.pre (S := [JL bl st.2, hsl tInt (vsv sf) f]) (SEnt.ch (.cons (.tail .head) rfl (.cons .head rfl .nil))) ?_
  refine Spec.exs fun s => ?_
  refine Spec.pre (SEnt.unstar.trans (SEnt.ch (T := [hsl tInt (vsv sf) f, hcells bl [vlit (vsv s)], hsl (tS tInt) (vsv s) st.2]) (.cons (.tail (.tail .head)) rfl (.cons .head rfl (.cons .head rfl .nil))))) ?_
  refine (listF_c bl sf s f st.2 (by omega) (by omega)).post ?_
  rintro r S' ⟨s', rfl, rfl⟩
  refine SImp.of ((SEnt.ch (T := [hcells bl [vlit (vsv s')], hsl (tS tInt) (vsv s') (st.2 ++ [f]), hsl tInt (vsv sf) f]) (.cons (.tail .head) rfl (.cons (.tail .head) rfl (.cons .head rfl .nil)))).trans (SEnt.star.trans ((SEnt.exs (h := fun s : Sv => hstar (hcells bl [vlit (vsv s)]) (hsl (tS tInt) (vsv s) (st.2 ++ [f]))) s').trans (SEnt.ch (T := [hsl tInt (vsv sf) f, JL bl (st.2 ++ [f])]) (.cons (.tail .head) rfl (.cons .head rfl .nil)))))) ⟨?_, rfl⟩
  refine congrArg vbool ?_
  rw [okS, decide_eq_decide]
  simp only [if_true, List.length_append, List.length_singleton]
  omega
/-- all results of a search, if it does not fail -/
def homsV (S : SSt) : Option (List (List Int)) := if S.1 ≤ 5000 ∧ S.2.length ≤ 300 then some S.2 else none
abbrev LstRes (o : Option (List (List Int))) (r : VP) (S' : List HP) : Prop := ∃ s : Sv, r = vtup [vlit (vsv s), vbool o.isSome] ∧ S' = [hsl (tS tInt) (vsv s) (o.getD [])]
set_option maxRecDepth 10000 in
set_option maxHeartbeats 2000000 in
theorem listHoms_c (N m2 : Nat) (os os2 : List (Int × List Int)) (into : Bool) (hh : HomOk (N : Int) m2 os os2) :
    Spec Try.prog 162 [vagg [vint (N : Int), vsl 2 (fun y : Int × (List Int) => [vint y.1, vsl 1 (fun x : Int => [vint x]) y.2]) os], vagg [vint (m2 : Int), vsl 2 (fun y : Int × (List Int) => [vint y.1, vsl 1 (fun x : Int => [vint x]) y.2]) os2], vbool into] [] (LstRes (homsV (homS (N : Int) os m2 os2 into (fun _ => true) 301))) := by
  have hS : ∀ (bl : Nat) (s : Sv), Spec Try.prog 201 [vagg [vint (N : Int), vsl 2 (fun y : Int × (List Int) => [vint y.1, vsl 1 (fun x : Int => [vint x]) y.2]) os], vagg [vint (m2 : Int), vsl 2 (fun y : Int × (List Int) => [vint y.1, vsl 1 (fun x : Int => [vint x]) y.2]) os2], vbool into, vlit (.func (.func 202) #[] #[.pointer (some ⟨bl, 0, none⟩)])] [hcells bl [vlit (vsv s)], hsl (tS tInt) (vsv s) []]
      (fun r S' => ∃ s' : Sv, r = vbool (decide ((homS (N : Int) os m2 os2 into (fun _ => true) 301).1 ≤ 5000)) ∧ S' = [hcells bl [vlit (vsv s')], hsl (tS tInt) (vsv s') (homS (N : Int) os m2 os2 into (fun _ => true) 301).2]) := fun bl s => by
    refine Spec.pre (SEnt.star.trans (SEnt.exs (h := fun s : Sv => hstar (hcells bl [vlit (vsv s)]) (hsl (tS tInt) (vsv s) [])) s)) ?_
    refine (searchHoms_c N m2 os os2 into hh 202 [.pointer (some ⟨bl, 0, none⟩)] (JL bl) (fun _ => true) 301 (by decide) Try.call202 (listF_ok bl _ _ hh.n8)).post ?_
    rintro r S' ⟨rfl, rfl⟩
    exact SImp.exs fun s' => SImp.of SEnt.unstar ⟨s', rfl, rfl⟩
  obtain ⟨T, hT⟩ : ∃ T, homS (N : Int) os m2 os2 into (fun _ => true) 301 = T := ⟨_, rfl⟩
  rw [hT] at hS ⊢
  refine Spec.of_run2 (n := 25) Try.func162 rfl Try.results162 Try.ntmps162 rfl ?_
  by_cases h1 : T.1 ≤ 5000
  · by_cases h2 : T.2.length ≤ 300
    · have e : homsV T = some T.2 := if_pos ⟨h1, h2⟩
      rw [e]
      repeat' (first | (with_reducible refine RL.done ?_) | (with_reducible refine RL.wanted ?_ ?_; exact rfl) | ((with_reducible show Run _ _ (.region 2 _ _) _ _ (hcells _ _ :: harr _ _ _ _ _ :: _)); refine Run.sent (T := [hsl (tS tInt) (vsv (some ⟨b10, 0, none⟩, 0, 0)) [], hcells b8 [vlit (vsv (some ⟨b10, 0, none⟩, 0, 0))], hcells b4 [vint (m2 : Int), vsl 2 (fun y : Int × (List Int) => [vint y.1, vsl 1 (fun x : Int => [vint x]) y.2]) os2], hcells b3 [vint (N : Int), vsl 2 (fun y : Int × (List Int) => [vint y.1, vsl 1 (fun x : Int => [vint x]) y.2]) os]]) ((SEnt.ch (.cons (.tail .head) rfl (.cons .head rfl chA))).trans (SEnt.packNil (tS tInt) rfl)) ?_) | ((with_reducible show RH _ _ _ ⟨some 3, .box _ _, _, _, _, _⟩ _ _ _ _); (refine RH.boxAgg rfl rfl ?_; rintro _ _ ⟨b3, rfl, rfl⟩)) | ((with_reducible show RH _ _ _ ⟨some 4, .box _ _, _, _, _, _⟩ _ _ _ _); (refine RH.boxAgg rfl rfl ?_; rintro _ _ ⟨b4, rfl, rfl⟩)) | ((with_reducible show RH _ _ _ ⟨some 10, .buildSlice _ _ _, _, _, _, _⟩ _ _ _ _); (refine RH.eff rfl rfl (EOpS.e (EOpS.slitV (by ((repeat (first | exact Elts.nil | apply Elts.one1 rfl | apply Elts.agg2 rfl)); done)) (by simp) rfl rfl)) ?_; rintro _ _ ⟨b10, rfl, rfl⟩)) | ((with_reducible show RH _ _ _ ⟨some 8, .alloc _, _, _, _, _⟩ _ _ _ _); refine RH.alloc rfl ?_; rintro _ _ ⟨b8, rfl, rfl⟩) | ((with_reducible show RH _ _ _ ⟨some 23, .buildSlice _ _ _, _, _, _, _⟩ _ _ _ _); (refine RH.eff rfl rfl (EOpS.e (EOpS.slitV (by ((repeat (first | exact Elts.nil | apply Elts.one1 rfl | apply Elts.agg2 rfl)); done)) (by simp) rfl rfl)) ?_; rintro _ _ ⟨b23, rfl, rfl⟩)) | ((with_reducible show RH _ _ _ ⟨_, .call ⟨.value (.func 201), _, _⟩, _, _, _, _⟩ _ _ _ _); refine RH.cW Try.call201 ?_; refine ⟨_, _, _, (by repeat (first | exact Pick.nil | (apply Pick.cons; (with_reducible repeat (first | exact Rem.head | apply Rem.tail))))), hS b8 (some ⟨b10, 0, none⟩, 0, 0), ?_⟩; rintro _ _ ⟨s2, rfl, rfl⟩; refine RL.nm ?_) | ((with_reducible show RH _ _ _ _ _ _ _ _); first | refine RH.val (hK := ?_) | refine RH.upd (hK := ?_)) | (with_reducible show RL _ _ _ (_ :: _) _ _ _; first | refine RL.guardYes rfl rfl rfl rfl ?_ | refine RL.guardNoS rfl rfl rfl rfl rfl rfl ?_ | refine RL.splitND rfl rfl rfl (fun h => ?_) (fun h => ?_)) | (with_reducible first | refine Run.seq ?_ | refine Run.region ?_ | refine Run.skip ?_ | refine Run.ret ?_) | (with_reducible show Run _ _ (.cond _ _ _) _ _ _; first | refine Run.condT rfl ?_ | refine Run.condD rfl (fun h => ?_) (fun h => ?_)) | (with_reducible first | refine seqN (K := Run _ _ _ _) ?_ | refine seqR ?_))
      all_goals first
        | (exfalso; omega)
        | (refine ⟨eA, _, [hsl (tS tInt) (vsv s2) T.2], resA, ?_, ?_⟩
           · exact SEnt.ch chA
           · exact ⟨s2, rfl, rfl⟩)
    · have e : homsV T = none := if_neg (fun h => h2 h.2)
      rw [e]
      repeat' (first | (with_reducible refine RL.done ?_) | (with_reducible refine RL.wanted ?_ ?_; exact rfl) | ((with_reducible show Run _ _ (.region 2 _ _) _ _ (hcells _ _ :: harr _ _ _ _ _ :: _)); refine Run.sent (T := [hsl (tS tInt) (vsv (some ⟨b10, 0, none⟩, 0, 0)) [], hcells b8 [vlit (vsv (some ⟨b10, 0, none⟩, 0, 0))], hcells b4 [vint (m2 : Int), vsl 2 (fun y : Int × (List Int) => [vint y.1, vsl 1 (fun x : Int => [vint x]) y.2]) os2], hcells b3 [vint (N : Int), vsl 2 (fun y : Int × (List Int) => [vint y.1, vsl 1 (fun x : Int => [vint x]) y.2]) os]]) ((SEnt.ch (.cons (.tail .head) rfl (.cons .head rfl chA))).trans (SEnt.packNil (tS tInt) rfl)) ?_) | ((with_reducible show RH _ _ _ ⟨some 3, .box _ _, _, _, _, _⟩ _ _ _ _); (refine RH.boxAgg rfl rfl ?_; rintro _ _ ⟨b3, rfl, rfl⟩)) | ((with_reducible show RH _ _ _ ⟨some 4, .box _ _, _, _, _, _⟩ _ _ _ _); (refine RH.boxAgg rfl rfl ?_; rintro _ _ ⟨b4, rfl, rfl⟩)) | ((with_reducible show RH _ _ _ ⟨some 10, .buildSlice _ _ _, _, _, _, _⟩ _ _ _ _); (refine RH.eff rfl rfl (EOpS.e (EOpS.slitV (by ((repeat (first | exact Elts.nil | apply Elts.one1 rfl | apply Elts.agg2 rfl)); done)) (by simp) rfl rfl)) ?_; rintro _ _ ⟨b10, rfl, rfl⟩)) | ((with_reducible show RH _ _ _ ⟨some 8, .alloc _, _, _, _, _⟩ _ _ _ _); refine RH.alloc rfl ?_; rintro _ _ ⟨b8, rfl, rfl⟩) | ((with_reducible show RH _ _ _ ⟨some 23, .buildSlice _ _ _, _, _, _, _⟩ _ _ _ _); (refine RH.eff rfl rfl (EOpS.e (EOpS.slitV (by ((repeat (first | exact Elts.nil | apply Elts.one1 rfl | apply Elts.agg2 rfl)); done)) (by simp) rfl rfl)) ?_; rintro _ _ ⟨b23, rfl, rfl⟩)) | ((with_reducible show RH _ _ _ ⟨_, .call ⟨.value (.func 201), _, _⟩, _, _, _, _⟩ _ _ _ _); refine RH.cW Try.call201 ?_; refine ⟨_, _, _, (by repeat (first | exact Pick.nil | (apply Pick.cons; (with_reducible repeat (first | exact Rem.head | apply Rem.tail))))), hS b8 (some ⟨b10, 0, none⟩, 0, 0), ?_⟩; rintro _ _ ⟨s2, rfl, rfl⟩; refine RL.nm ?_) | ((with_reducible show RH _ _ _ _ _ _ _ _); first | refine RH.val (hK := ?_) | refine RH.upd (hK := ?_)) | (with_reducible show RL _ _ _ (_ :: _) _ _ _; first | refine RL.guardYes rfl rfl rfl rfl ?_ | refine RL.guardNoS rfl rfl rfl rfl rfl rfl ?_ | refine RL.splitND rfl rfl rfl (fun h => ?_) (fun h => ?_)) | (with_reducible first | refine Run.seq ?_ | refine Run.region ?_ | refine Run.skip ?_ | refine Run.ret ?_) | (with_reducible show Run _ _ (.cond _ _ _) _ _ _; first | refine Run.condT rfl ?_ | refine Run.condD rfl (fun h => ?_) (fun h => ?_)) | (with_reducible first | refine seqN (K := Run _ _ _ _) ?_ | refine seqR ?_))
      all_goals first
        | (exfalso; omega)
        | (refine ⟨eA, _, [hsl (tS tInt) (vsv (some ⟨b23, 0, none⟩, 0, 0)) []], resA, ?_, ?_⟩
           · exact (SEnt.ch (.cons .head rfl .nil)).trans (SEnt.packNil (tS tInt) rfl)
           · exact ⟨_, rfl, rfl⟩)
  · have e : homsV T = none := if_neg (fun h => h1 h.1)
    rw [e]
    repeat' (first | (with_reducible refine RL.done ?_) | (with_reducible refine RL.wanted ?_ ?_; exact rfl) | ((with_reducible show Run _ _ (.region 2 _ _) _ _ (hcells _ _ :: harr _ _ _ _ _ :: _)); refine Run.sent (T := [hsl (tS tInt) (vsv (some ⟨b10, 0, none⟩, 0, 0)) [], hcells b8 [vlit (vsv (some ⟨b10, 0, none⟩, 0, 0))], hcells b4 [vint (m2 : Int), vsl 2 (fun y : Int × (List Int) => [vint y.1, vsl 1 (fun x : Int => [vint x]) y.2]) os2], hcells b3 [vint (N : Int), vsl 2 (fun y : Int × (List Int) => [vint y.1, vsl 1 (fun x : Int => [vint x]) y.2]) os]]) ((SEnt.ch (.cons (.tail .head) rfl (.cons .head rfl chA))).trans (SEnt.packNil (tS tInt) rfl)) ?_) | ((with_reducible show RH _ _ _ ⟨some 3, .box _ _, _, _, _, _⟩ _ _ _ _); (refine RH.boxAgg rfl rfl ?_; rintro _ _ ⟨b3, rfl, rfl⟩)) | ((with_reducible show RH _ _ _ ⟨some 4, .box _ _, _, _, _, _⟩ _ _ _ _); (refine RH.boxAgg rfl rfl ?_; rintro _ _ ⟨b4, rfl, rfl⟩)) | ((with_reducible show RH _ _ _ ⟨some 10, .buildSlice _ _ _, _, _, _, _⟩ _ _ _ _); (refine RH.eff rfl rfl (EOpS.e (EOpS.slitV (by ((repeat (first | exact Elts.nil | apply Elts.one1 rfl | apply Elts.agg2 rfl)); done)) (by simp) rfl rfl)) ?_; rintro _ _ ⟨b10, rfl, rfl⟩)) | ((with_reducible show RH _ _ _ ⟨some 8, .alloc _, _, _, _, _⟩ _ _ _ _); refine RH.alloc rfl ?_; rintro _ _ ⟨b8, rfl, rfl⟩) | ((with_reducible show RH _ _ _ ⟨some 23, .buildSlice _ _ _, _, _, _, _⟩ _ _ _ _); (refine RH.eff rfl rfl (EOpS.e (EOpS.slitV (by ((repeat (first | exact Elts.nil | apply Elts.one1 rfl | apply Elts.agg2 rfl)); done)) (by simp) rfl rfl)) ?_; rintro _ _ ⟨b23, rfl, rfl⟩)) | ((with_reducible show RH _ _ _ ⟨_, .call ⟨.value (.func 201), _, _⟩, _, _, _, _⟩ _ _ _ _); refine RH.cW Try.call201 ?_; refine ⟨_, _, _, (by repeat (first | exact Pick.nil | (apply Pick.cons; (with_reducible repeat (first | exact Rem.head | apply Rem.tail))))), hS b8 (some ⟨b10, 0, none⟩, 0, 0), ?_⟩; rintro _ _ ⟨s2, rfl, rfl⟩; refine RL.nm ?_) | ((with_reducible show RH _ _ _ _ _ _ _ _); first | refine RH.val (hK := ?_) | refine RH.upd (hK := ?_)) | (with_reducible show RL _ _ _ (_ :: _) _ _ _; first | refine RL.guardYes rfl rfl rfl rfl ?_ | refine RL.guardNoS rfl rfl rfl rfl rfl rfl ?_ | refine RL.splitND rfl rfl rfl (fun h => ?_) (fun h => ?_)) | (with_reducible first | refine Run.seq ?_ | refine Run.region ?_ | refine Run.skip ?_ | refine Run.ret ?_) | (with_reducible show Run _ _ (.cond _ _ _) _ _ _; first | refine Run.condT rfl ?_ | refine Run.condD rfl (fun h => ?_) (fun h => ?_)) | (with_reducible first | refine seqN (K := Run _ _ _ _) ?_ | refine seqR ?_))
    all_goals first
      | (exfalso; omega)
      | (refine ⟨eA, _, [hsl (tS tInt) (vsv (some ⟨b23, 0, none⟩, 0, 0)) []], resA, ?_, ?_⟩
         · exact (SEnt.ch (.cons .head rfl .nil)).trans (SEnt.packNil (tS tInt) rfl)
         · exact ⟨_, rfl, rfl⟩)
end Go.Proofs.Ytejeeokjjbiadaa
