/- One try of an operation for a tuple: (*span).relax. Proved for this program; conditions: numbers of tuples of the list, rows of at most 60 numbers. -/
import Derived.Test.YtemfpennomelaaaFtfH
import Derived.Test.YtemfpennomelaaaFtfI
namespace Go.Proofs.Ytemfpennomelaaa
open Go Go.Proofs
set_option linter.unusedVariables false
theorem ch_step {B : List (List Int)} {ns : List Int} {q : Nat} (hq : q < ns.length) : chosen B (ns.take (q + 1)) = chosen B (ns.take q) ++ [B.getD (ns[q]).toNat []] := by
  rw [chosen, chosen, List.take_add_one, List.getElem?_eq_getElem hq, List.map_append]; rfl
theorem flat_step {B : List (List Int)} {ns : List Int} {q : Nat} (hq : q < ns.length) : (chosen B (ns.take (q + 1))).flatten = (chosen B (ns.take q)).flatten ++ B.getD (ns[q]).toNat [] := by
  rw [ch_step hq, List.flatten_append]; simp
theorem rxT_len (j : Nat) (B : List (List Int)) (ns : List Int) : (rxT j B ns).length = 1 + (chosen B ns).flatten.length := by rw [rxT, List.length_cons]; omega
theorem flat_le {B : List (List Int)} (hB : ∀ u ∈ B, u.length ≤ 60) : ∀ (ns : List Int), (chosen B ns).flatten.length ≤ 60 * ns.length
  | [] => by simp [chosen]
  | x :: ns => by
    have h1 := flat_le hB ns
    have h2 : (B.getD x.toNat []).length ≤ 60 := by
      rcases Nat.lt_or_ge x.toNat B.length with h | h
      · exact hB _ (getD_mem h)
      · rw [List.getD_eq_getElem?_getD, List.getElem?_eq_none h]; exact Nat.zero_le _
    rw [chosen, List.map_cons, List.flatten_cons, List.length_append, List.length_cons]
    rw [chosen] at h1
    omega
theorem ge60 {B : List (List Int)} (hB : ∀ u ∈ B, u.length ≤ 60) (i : Nat) : (B.getD i []).length ≤ 60 := by
  rcases Nat.lt_or_ge i B.length with h | h
  · exact hB _ (getD_mem h)
  · rw [List.getD_eq_getElem?_getD, List.getElem?_eq_none h]; exact Nat.zero_le _
theorem rx_no {j : Nat} {B : List (List Int)} {ns : List Int} {p : Nat} (h : rxB j B ns p = false) : rx j B ns p = B := by rw [rx, h]; rfl
theorem rx_yes {j : Nat} {B : List (List Int)} {ns : List Int} {p : Nat} (h : rxB j B ns p = true) : rx j B ns p = B.set p (rxT j B ns) := by rw [rx, h]; rfl
set_option maxRecDepth 10000 in
set_option maxHeartbeats 4000000 in
theorem relax_c (n : Int) (os : List (Int × List Int)) (m : Nat) (L B : List (List Int)) (V : List Sv) (ps : PS) (s : Sv) (bs bm j i p : Nat) (hj : j < os.length) (hj4 : j ≤ 4) (har : 0 ≤ os[j].1 ∧ os[j].1 ≤ 3) (hL : 1 ≤ L.length ∧ L.length ≤ 300) (hi : (i : Int) < pw (L.length : Int) os[j].1.toNat) (hi2 : i ≤ 90000) (hp : p < L.length) (hB : B.length = L.length) (hBl : ∀ u ∈ B, u.length ≤ 60) (hA : Asc V ps B) :
    Spec Try.prog 57 [vptr bs 0, vlit (vsv s), vint (j : Int), vint os[j].1, vint (i : Int), vint (p : Int)] [hsl tSv (vsv s) V, hrows ps, hcells bs [vint n, vsl 2 (fun y : Int × (List Int) => [vint y.1, vsl 1 (fun x : Int => [vint x]) y.2]) os, vint (m : Int), vsl 1 (fun t : List Int => [vsl 1 (fun x : Int => [vint x]) t]) L, vmap bm]]
      (fun r S' => ∃ (V' : List Sv) (ps' : PS), r = vbool (rxB j B (lowd (i : Int) (L.length : Int) os[j].1.toNat) p) ∧ S' = [hsl tSv (vsv s) V', hrows ps', hcells bs [vint n, vsl 2 (fun y : Int × (List Int) => [vint y.1, vsl 1 (fun x : Int => [vint x]) y.2]) os, vint (m : Int), vsl 1 (fun t : List Int => [vsl 1 (fun x : Int => [vint x]) t]) L, vmap bm]] ∧ Asc V' ps' (rx j B (lowd (i : Int) (L.length : Int) os[j].1.toNat) p)) := by
  have hkf : ((os[j].1.toNat : Nat) : Int) = os[j].1 := by omega
  have hargs := argsAt_c (i : Int) (L.length : Int) os[j].1.toNat (by omega) (by omega) (by omega) (by omega)
  rw [hkf] at hargs
  have hnum := low_at hi
  have hll := lowd_length (i : Int) (L.length : Int) os[j].1.toNat
  have hVl := hA.len
  have hpV : p < V.length := by omega
  generalize lowd (i : Int) (L.length : Int) os[j].1.toNat = ns at *
  have hfl := flat_le hBl
  have hp60 := ge60 hBl p
  have htl := rxT_len j B ns
  have hpl := hA.len0 hpV
  refine Spec.of_run2 (n := 99) Try.func57 rfl Try.results57 Try.ntmps57 rfl ?_
  repeat' (first | (with_reducible refine RL.done ?_) | (with_reducible refine RL.wanted ?_ ?_; exact rfl) | ((with_reducible show RH _ _ _ ⟨_, .call ⟨.value (.func 65), _, _⟩, _, _, _, _⟩ _ _ _ _); refine RH.cP Try.call65 ?_; refine ⟨_, hargs, ?_⟩; rintro _ _ ⟨s27, rfl, rfl⟩; refine RL.app1 ?_; refine RL.frzI ?_) | ((with_reducible show RH _ _ _ _ _ _ _ _); refine RH.val (hK := ?_)) | (with_reducible first | refine Run.seq ?_ | refine Run.region ?_ | refine Run.block ?_) | (with_reducible refine seqN (K := Run _ _ _ _) ?_))
  all_goals first
    | (exfalso; omega)
    | skip
  refine Run.loop (α := Nat) (fun q => [(0, vptr bs 0), (1, vlit (vsv s)), (2, vint (j : Int)), (5, vint (p : Int)), (13, vsl 1 (fun x : Int => [vint x]) ns), (14, vint (1 + ((chosen B (ns.take q)).flatten.length : Int))), (28, vsl 1 (fun x : Int => [vint x]) ns), (29, vint (ns.length : Int)), (30, vint (q : Int))])
    (fun q => [hsl tSv (vsv s) V, hrows ps, hcells bs [vint n, vsl 2 (fun y : Int × (List Int) => [vint y.1, vsl 1 (fun x : Int => [vint x]) y.2]) os, vint (m : Int), vsl 1 (fun t : List Int => [vsl 1 (fun x : Int => [vint x]) t]) L, vmap bm]])
    (fun q => q ≤ ns.length ∧ ∀ u ∈ chosen B (ns.take q), u ≠ []) (fun q => ns.length - q) 0 ⟨Nat.zero_le _, fun u hu => by simp [chosen] at hu⟩ (Ent.of slA .refl) ?_
  rintro q ⟨hq, hne⟩
  have hfq := hfl (ns.take q)
  have hql : (ns.take q).length ≤ 3 := by rw [List.length_take]; omega
  rcases Nat.lt_or_eq_of_le hq with h9 | h9
  · have hx := hnum _ (List.getElem_mem h9)
    have hxV : (ns[q]).toNat < V.length := by omega
    have hx60 := ge60 hBl (ns[q]).toNat
    have hxl := hA.len0 hxV
    have hxn := hA.isNone hxV
    have hfs := congrArg List.length (flat_step (B := B) h9)
    rw [List.length_append] at hfs
    have hmem : B.getD (ns[q]).toNat [] ∈ chosen B ns := List.mem_map.2 ⟨ns[q], List.getElem_mem h9, rfl⟩
    rcases Decidable.em (B.getD (ns[q]).toNat [] = []) with hxe | hxne
    · rw [decide_eq_true hxe] at hxn
      repeat' (first | (with_reducible refine RL.done ?_) | (with_reducible refine RL.wanted ?_ ?_; exact rfl) | ((with_reducible show RH _ _ _ ⟨_, .load 26 _, _, _, _, _⟩ _ _ _ _); refine RH.value rfl rfl (VOp.loadHS (xs := V) rfl (by with_reducible repeat (first | exact Has.head | apply Has.tail)) (by omega)) ?_) | ((with_reducible show Run _ _ (.region 10 _ _) _ _ _); exfalso; omega) | ((with_reducible show RH _ _ _ _ _ _ _ _); refine RH.val (hK := ?_)) | (with_reducible first | refine Run.seq ?_ | refine Run.region ?_ | refine Run.block ?_ | refine Run.skip ?_ | refine Run.exit ?_ | refine Run.ret ?_) | (with_reducible show Run _ _ (.cond _ _ _) _ _ _; first | refine Run.condD rfl (fun h => ?_) (fun h => ?_) | refine Run.cond rfl (fun h => ?_) (fun h => ?_)) | (with_reducible first | refine seqN (K := Run _ _ _ _) ?_ | refine seqE ?_ | refine seqR ?_ | refine blockN ?_ | refine blockR ?_ | refine blockE ?_))
      all_goals first
        | (exfalso; omega)
        | (exfalso; simp_all; done)
        | (have hno : rxB j B ns p = false := rxB_no fun h => h.1 _ hmem hxe
           refine ⟨eA, _, [hsl tSv (vsv s) V, hrows ps, hcells bs [vint n, vsl 2 (fun y : Int × (List Int) => [vint y.1, vsl 1 (fun x : Int => [vint x]) y.2]) os, vint (m : Int), vsl 1 (fun t : List Int => [vsl 1 (fun x : Int => [vint x]) t]) L, vmap bm]], resA, ?_, ?_⟩
           · exact SEnt.ch chA
           · exact ⟨V, ps, congrArg vbool hno.symm, rfl, by rw [rx_no hno]; exact hA⟩)
    · rw [decide_eq_false hxne] at hxn
      repeat' (first | (with_reducible refine RL.done ?_) | (with_reducible refine RL.wanted ?_ ?_; exact rfl) | ((with_reducible show RH _ _ _ ⟨_, .load 26 _, _, _, _, _⟩ _ _ _ _); refine RH.value rfl rfl (VOp.loadHS (xs := V) rfl (by with_reducible repeat (first | exact Has.head | apply Has.tail)) (by omega)) ?_) | ((with_reducible show Run _ _ (.region 10 _ _) _ _ _); exfalso; omega) | ((with_reducible show RH _ _ _ _ _ _ _ _); refine RH.val (hK := ?_)) | (with_reducible first | refine Run.seq ?_ | refine Run.region ?_ | refine Run.block ?_ | refine Run.skip ?_ | refine Run.exit ?_ | refine Run.ret ?_) | (with_reducible show Run _ _ (.cond _ _ _) _ _ _; first | refine Run.condD rfl (fun h => ?_) (fun h => ?_) | refine Run.cond rfl (fun h => ?_) (fun h => ?_)) | (with_reducible first | refine seqN (K := Run _ _ _ _) ?_ | refine seqE ?_ | refine seqR ?_ | refine blockN ?_ | refine blockR ?_ | refine blockE ?_))
      all_goals first
        | (exfalso; omega)
        | (exfalso; simp_all; done)
        | (with_reducible refine seqN ?_
           refine ⟨q + 1, ⟨by omega, fun u hu => ?_⟩, by omega, Ent.of slA chA⟩
           rw [ch_step h9, List.mem_append, List.mem_singleton] at hu
           rcases hu with hu | rfl
           · exact hne u hu
           · exact hxne)
  · subst h9
    rw [List.take_length] at hne hfq ⊢
    clear hq hql
    have hnone := hA.isNone hpV
    rcases Decidable.em (B.getD p [] = []) with e | e
    all_goals
      first | rw [decide_eq_true e] at hnone | rw [decide_eq_false e] at hnone
      repeat' (first | (with_reducible refine RL.done ?_) | (with_reducible refine RL.wanted ?_ ?_; exact rfl) | ((with_reducible show RH _ _ _ ⟨_, .load 26 _, _, _, _, _⟩ _ _ _ _); refine RH.value rfl rfl (VOp.loadHS (xs := V) rfl (by with_reducible repeat (first | exact Has.head | apply Has.tail)) (by omega)) ?_) | ((with_reducible show RH _ _ _ ⟨some 67, .buildSlice _ _ _, _, _, _, _⟩ _ _ _ _); refine RH.eff rfl rfl (EOpS.e (EOpS.slit (fun x : Int => [vint x]) _ (fun _ _ => rfl) (by repeat (first | exact Elts.nil | (apply Elts.cons; exact rfl; exact CellsOf.one))) rfl rfl)) ?_; rintro _ _ ⟨b67, rfl, rfl⟩) | ((with_reducible show Run _ _ .skip _ _ _); exfalso; omega) | ((with_reducible show RH _ _ _ _ _ _ _ _); refine RH.val (hK := ?_)) | (with_reducible show RL _ _ _ (_ :: _) _ _ _; first | refine RL.guardYes rfl rfl rfl rfl ?_ | refine RL.guardNoS rfl rfl rfl rfl rfl rfl ?_ | refine RL.splitD rfl rfl rfl (fun h => ?_) (fun h => ?_) | refine RL.splitNB rfl rfl rfl (fun h => ?_) (fun h => ?_)) | (with_reducible first | refine Run.seq ?_ | refine Run.region ?_ | refine Run.block ?_ | refine Run.skip ?_ | refine Run.exit ?_ | refine Run.ret ?_) | (with_reducible show Run _ _ (.cond _ _ _) _ _ _; first | refine Run.condT rfl ?_ | refine Run.condF rfl ?_ | refine Run.condD rfl (fun h => ?_) (fun h => ?_)) | (with_reducible first | refine seqN (K := Run _ _ _ _) ?_ | refine seqE ?_ | refine seqR ?_ | refine blockE ?_))
      all_goals first
        | (exfalso; omega)
        | (exfalso; simp_all; done)
        | (have hno : rxB j B ns p = false := rxB_no fun h => by
             have h2 := h.2.1
             omega
           refine ⟨eA, _, [hsl tSv (vsv s) V, hrows ps, hcells bs [vint n, vsl 2 (fun y : Int × (List Int) => [vint y.1, vsl 1 (fun x : Int => [vint x]) y.2]) os, vint (m : Int), vsl 1 (fun t : List Int => [vsl 1 (fun x : Int => [vint x]) t]) L, vmap bm]], resA, ?_, ?_⟩
           · exact SEnt.ch chA
           · exact ⟨V, ps, congrArg vbool hno.symm, rfl, by rw [rx_no hno]; exact hA⟩)
        | (have hno : rxB j B ns p = false := rxB_no fun h => by
             rcases h.2.2 with h3 | h3
             · exact e h3
             · rw [tlt_iff] at h3
               omega
           refine ⟨eA, _, [hsl tSv (vsv s) V, hrows ps, hcells bs [vint n, vsl 2 (fun y : Int × (List Int) => [vint y.1, vsl 1 (fun x : Int => [vint x]) y.2]) os, vint (m : Int), vsl 1 (fun t : List Int => [vsl 1 (fun x : Int => [vint x]) t]) L, vmap bm]], resA, ?_, ?_⟩
           · exact SEnt.ch chA
           · exact ⟨V, ps, congrArg vbool hno.symm, rfl, by rw [rx_no hno]; exact hA⟩)
        | skip
      all_goals
        refine Run.loop (α := Nat × Nat × Nat × Nat) (fun z => [(0, vptr bs 0), (1, vlit (vsv s)), (2, vint (j : Int)), (5, vint (p : Int)), (13, vsl 1 (fun x : Int => [vint x]) ns), (17, vsb z.2.1 z.2.2.1 z.2.2.2), (68, vsl 1 (fun x : Int => [vint x]) ns), (69, vint (ns.length : Int)), (70, vint (z.1 : Int))])
          (fun z => [harr z.2.1 1 (fun x : Int => [vint x]) ((-1 - (j : Int)) :: (chosen B (ns.take z.1)).flatten) (z.2.2.2 * 1), hrows ps, hsl tSv (vsv s) V, hcells bs [vint n, vsl 2 (fun y : Int × (List Int) => [vint y.1, vsl 1 (fun x : Int => [vint x]) y.2]) os, vint (m : Int), vsl 1 (fun t : List Int => [vsl 1 (fun x : Int => [vint x]) t]) L, vmap bm]])
          (fun z => z.1 ≤ ns.length ∧ z.2.2.1 = ((-1 - (j : Int)) :: (chosen B (ns.take z.1)).flatten).length) (fun z => ns.length - z.1) (0, b67, 1, 1) ⟨Nat.zero_le _, by simp [chosen]⟩ (Ent.of slA (.cons .head (by simp [chosen]) chA)) ?_
        rintro ⟨q, b, l, c⟩ ⟨hq, hl⟩
        dsimp only at hq hl ⊢
        have hfq := hfl (ns.take q)
        have hql : (ns.take q).length ≤ 3 := by rw [List.length_take]; omega
        rcases Nat.lt_or_eq_of_le hq with h9 | h9
        · have hx := hnum _ (List.getElem_mem h9)
          have hxV : (ns[q]).toNat < V.length := by omega
          have hx60 := ge60 hBl (ns[q]).toNat
          have hxne : B.getD (ns[q]).toNat [] ≠ [] := hne _ (List.mem_map.2 ⟨ns[q], List.getElem_mem h9, rfl⟩)
          have hfs := flat_step (B := B) h9
          have hfs2 := congrArg List.length hfs
          rw [List.length_append] at hfs2
          have hl2 := hl
          rw [List.length_cons] at hl2
          repeat' (first | (with_reducible refine RL.done ?_) | (with_reducible refine RL.wanted ?_ ?_; exact rfl) | ((with_reducible show RH _ _ _ ⟨_, .load 26 _, _, _, _, _⟩ _ _ _ _); refine RH.value rfl rfl (VOp.loadHS (xs := V) rfl (by with_reducible repeat (first | exact Has.head | apply Has.tail)) (by omega)) ?_) | ((with_reducible show RH _ _ _ ⟨some 79, .call ⟨.builtin .append, _, _⟩, _, _, _, _⟩ _ _ _ _); refine RH.appQ rfl rfl rfl (by with_reducible repeat (first | exact Has.head | apply Has.tail)) (hA.yes _ hxV hxne).1 (by with_reducible repeat (first | exact Plc.head | apply Plc.tail)) (by first | assumption | (simp only [List.length_cons]; omega)) (by simp only [List.length_cons]; omega) (by simp only [List.length_cons]; omega) ?_; rintro _ _ ⟨b79, c79, rfl, rfl⟩) | ((with_reducible show Run _ _ (.region 18 _ _) _ _ _); exfalso; omega) | ((with_reducible show RH _ _ _ _ _ _ _ _); refine RH.val (hK := ?_)) | (with_reducible first | refine Run.seq ?_ | refine Run.region ?_ | refine Run.block ?_ | refine Run.skip ?_ | refine Run.exit ?_) | (with_reducible show Run _ _ (.cond _ _ _) _ _ _; refine Run.condD rfl (fun h => ?_) (fun h => ?_)) | (with_reducible first | refine seqN (K := Run _ _ _ _) ?_ | refine seqE ?_ | refine blockN ?_ | refine blockE ?_))
          all_goals first
            | (exfalso; omega)
            | (with_reducible refine seqN ?_
               exact ⟨(q + 1, b79, ((-1 - (j : Int)) :: (chosen B (ns.take q)).flatten).length + (B.getD (ns[q]).toNat []).length, c79), ⟨by dsimp only; omega, by dsimp only; simp only [List.length_cons]; omega⟩, by dsimp only; omega, Ent.of (by dsimp only; exact slA) (by dsimp only; rw [hfs, ← List.cons_append]; exact chA)⟩)
        · subst h9
          rw [List.take_length] at hl ⊢
          refine Run.sent (T := [hrows (((some ⟨b, 0, none⟩, l, c), rxT j B ns) :: ps), hsl tSv (vsv s) V, hcells bs [vint n, vsl 2 (fun y : Int × (List Int) => [vint y.1, vsl 1 (fun x : Int => [vint x]) y.2]) os, vint (m : Int), vsl 1 (fun t : List Int => [vsl 1 (fun x : Int => [vint x]) t]) L, vmap bm]]) ((SEnt.pack (fun _ => rfl) hl).trans (SEnt.addrow (w := (some ⟨b, 0, none⟩, l, c)) (t := rxT j B ns))) ?_
          repeat' (first | (with_reducible refine RL.done ?_) | (with_reducible refine RL.wanted ?_ ?_; exact rfl) | ((with_reducible show RH _ _ _ ⟨_, .load 26 _, _, _, _, _⟩ _ _ _ _); refine RH.value rfl rfl (VOp.loadHS (xs := V) rfl (by with_reducible repeat (first | exact Has.head | apply Has.tail)) (by omega)) ?_) | ((with_reducible show RH _ _ _ ⟨_, .store 26 _ _, _, _, _, _⟩ _ _ _ _); refine RH.put rfl (UOp.storeHS (xs := V) (z := (some ⟨b, 0, none⟩, l, c)) rfl rfl (by with_reducible repeat (first | exact Plc.head | apply Plc.tail)) (by omega)) ?_) | ((with_reducible show RH _ _ _ ⟨_, .call ⟨.value (.func 66), _, _⟩, _, _, _, _⟩ _ _ _ _); refine RH.cW Try.call66 ?_; refine ⟨_, _, _, (by repeat (first | exact Pick.nil | (apply Pick.cons; (with_reducible repeat (first | exact Rem.head | apply Rem.tail))))), compareQ_c (((some ⟨b, 0, none⟩, l, c), rxT j B ns) :: ps) V[p] (some ⟨b, 0, none⟩, l, c) (B.getD p []) (rxT j B ns) (List.mem_cons_of_mem _ (hA.yes p hpV e).1) List.mem_cons_self (by omega) (by omega), ?_⟩; rintro _ _ ⟨rfl, rfl⟩; refine RL.nm ?_) | ((with_reducible show Run _ _ .skip _ _ _); exfalso; omega) | ((with_reducible show RH _ _ _ _ _ _ _ _); refine RH.val (hK := ?_)) | (with_reducible show RL _ _ _ (_ :: _) _ _ _; first | refine RL.guardYes rfl rfl rfl rfl ?_ | refine RL.guardNoS rfl rfl rfl rfl rfl rfl ?_ | refine RL.splitNB rfl rfl rfl (fun h => ?_) (fun h => ?_)) | (with_reducible first | refine Run.seq ?_ | refine Run.region ?_ | refine Run.skip ?_ | refine Run.exit ?_ | refine Run.ret ?_) | (with_reducible show Run _ _ (.cond _ _ _) _ _ _; first | refine Run.condF rfl ?_ | refine Run.condD rfl (fun h => ?_) (fun h => ?_)) | (with_reducible first | refine seqN (K := Run _ _ _ _) ?_ | refine seqE ?_ | refine seqR ?_ | refine blockE ?_))
          all_goals first
            | (exfalso; omega)
            | (exfalso; simp_all; done)
            | (have hno : rxB j B ns p = false := rxB_no fun h => by
                 rcases h.2.2 with h3 | h3
                 · exact e h3
                 · have := cmpT_pos.2 h3
                   omega
               refine ⟨eA, _, [hsl tSv (vsv s) V, hrows (((some ⟨b, 0, none⟩, l, c), rxT j B ns) :: ps), hcells bs [vint n, vsl 2 (fun y : Int × (List Int) => [vint y.1, vsl 1 (fun x : Int => [vint x]) y.2]) os, vint (m : Int), vsl 1 (fun t : List Int => [vsl 1 (fun x : Int => [vint x]) t]) L, vmap bm]], resA, ?_, ?_⟩
               · exact SEnt.ch chA
               · exact ⟨V, _, congrArg vbool hno.symm, rfl, by rw [rx_no hno]; exact hA.more fun p hp => List.mem_cons_of_mem _ hp⟩)
            | (have hyes : rxB j B ns p = true := rxB_of hne (by omega) (by first | exact .inl e | exact .inr (cmpT_pos.1 (by omega)))
               refine ⟨eA, _, [hsl tSv (vsv s) (V.set p (some ⟨b, 0, none⟩, l, c)), hrows (((some ⟨b, 0, none⟩, l, c), rxT j B ns) :: ps), hcells bs [vint n, vsl 2 (fun y : Int × (List Int) => [vint y.1, vsl 1 (fun x : Int => [vint x]) y.2]) os, vint (m : Int), vsl 1 (fun t : List Int => [vsl 1 (fun x : Int => [vint x]) t]) L, vmap bm]], resA, ?_, ?_⟩
               · exact SEnt.ch chA
               · exact ⟨_, _, congrArg vbool hyes.symm, rfl, by rw [rx_yes hyes]; exact (hA.more fun p hp => List.mem_cons_of_mem _ hp).set (by omega) List.mem_cons_self (by simp) hl (by simp [rxT])⟩)
end Go.Proofs.Ytemfpennomelaaa
