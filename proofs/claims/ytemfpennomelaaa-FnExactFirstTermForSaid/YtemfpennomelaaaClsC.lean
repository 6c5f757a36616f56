/- The reference's closure of tuples: spec.l8Close, its beginning. Proved for this program; conditions: a valid algebra, at most a thousand tuples of elements. -/
import Derived.Test.YtemfpennomelaaaClsQ
import Derived.Test.YtemfpennomelaaaClsP
import Derived.Test.YtemfpennomelaaaSubT
namespace Go.Proofs.Ytemfpennomelaaa
open Go Go.Proofs
set_option linter.unusedVariables false
theorem SEnt.splitrows {a b : PS} {S : List HP} : SEnt (hrows (a ++ b) :: S) (hrows a :: hrows b :: S) := fun c fs hs => by
  obtain ⟨f, gs, rfl, fss, rfl, h1⟩ := hs.head
  obtain ⟨g1, g2, rfl, h3, h4⟩ := rows_cut h1
  exact ⟨_, SHf.part (f1 := g1.flatten) (f2 := g2.flatten) (by rw [List.flatten_append] at hs; exact hs) ⟨_, rfl, h3⟩ ⟨_, rfl, h4⟩⟩
theorem SEnt.rowone {w : Sv} {t : List Int} {S : List HP} : SEnt (hsl tInt (vsv w) t :: S) (hrows [(w, t)] :: S) := SEnt.nilrows.trans (SEnt.insrow (p1 := []) (p2 := []))
theorem rows_perm {c : Ctx} {a b : PS} (h : a.Perm b) : ∀ {f : List (List Nat)}, Rows c (tS tInt) (a.map Prod.snd) (a.map fun p => [vsv p.1]) f → ∃ g, Rows c (tS tInt) (b.map Prod.snd) (b.map fun p => [vsv p.1]) g ∧ f.flatten.Perm g.flatten := by
  induction h with
  | nil => intro f h; exact ⟨f, h, .refl _⟩
  | cons x _ ih =>
    intro f h
    cases h with
    | cons hp hr =>
      obtain ⟨g, h1, h2⟩ := ih hr
      exact ⟨_, .cons hp h1, by rw [List.flatten_cons, List.flatten_cons]; exact h2.append_left _⟩
  | swap x y l =>
    intro f h
    cases h with
    | cons hp hr =>
      cases hr with
      | cons hq hr =>
        refine ⟨_, .cons hq (.cons hp hr), ?_⟩
        simp only [List.flatten_cons]
        rw [← List.append_assoc, ← List.append_assoc]
        exact List.perm_append_comm.append_right _
  | trans _ _ ih1 ih2 =>
    intro f h
    obtain ⟨g, h1, h2⟩ := ih1 h
    obtain ⟨g2, h3, h4⟩ := ih2 h1
    exact ⟨g2, h3, h2.trans h4⟩
theorem SEnt.permrows {a b : PS} {S : List HP} (h : a.Perm b) : SEnt (hrows a :: S) (hrows b :: S) := fun c fs hs => by
  obtain ⟨f, gs, rfl, fss, rfl, h1⟩ := hs.head
  obtain ⟨g, h2, h3⟩ := rows_perm h h1
  exact ⟨_, SHf.perm hs h3 ⟨g, rfl, h2⟩⟩
theorem SEnt.moverow {Ln r : PS} {p : Sv × List Int} {S : List HP} : SEnt (hrows Ln :: hrows ([p] ++ r) :: S) (hrows (Ln ++ [p]) :: hrows r :: S) :=
  (SEnt.pick (.cons (.tail .head) (.cons .head .nil))).trans (SEnt.splitrows.trans ((SEnt.pick (.cons (.tail (.tail .head)) (.cons .head (.cons .head .nil)))).trans SEnt.catrows))
/-- rows with these numbers, with the values that they are -/
def chosenP (Ln : PS) (ns : List Int) : PS := ns.map fun x => Ln.getD x.toNat default
theorem chosenP_fst {Ln : PS} {ns : List Int} (h : ∀ x ∈ ns, 0 ≤ x ∧ x.toNat < Ln.length) : (chosenP Ln ns).map Prod.fst = chosenV (Ln.map Prod.fst) ns := by
  rw [chosenP, chosenV, List.map_map]
  apply List.map_congr_left
  intro x hx
  have h1 := (h x hx).2
  simp [List.getD_eq_getElem?_getD, List.getElem?_eq_getElem h1]
theorem chosenP_snd {Ln : PS} {ns : List Int} (h : ∀ x ∈ ns, 0 ≤ x ∧ x.toNat < Ln.length) : (chosenP Ln ns).map Prod.snd = chosen (Ln.map Prod.snd) ns := by
  rw [chosenP, chosen, List.map_map]
  apply List.map_congr_left
  intro x hx
  have h1 := (h x hx).2
  simp [List.getD_eq_getElem?_getD, List.getElem?_eq_getElem h1]
theorem chosenP_mem {Ln : PS} {ns : List Int} (h : ∀ x ∈ ns, 0 ≤ x ∧ x.toNat < Ln.length) : ∀ p ∈ chosenP Ln ns, p ∈ Ln := fun p hp => by
  obtain ⟨x, hx, rfl⟩ := List.mem_map.1 hp
  have h1 := (h x hx).2
  rw [List.getD_eq_getElem?_getD, List.getElem?_eq_getElem h1]
  exact List.getElem_mem _
theorem chosen_pref {M L : List (List Int)} {ns : List Int} (hp : M <+: L) (h : ∀ x ∈ ns, 0 ≤ x ∧ x.toNat < M.length) : chosen L ns = chosen M ns := by
  rw [chosen, chosen]
  apply List.map_congr_left
  intro x hx
  have h1 := (h x hx).2
  obtain ⟨T, rfl⟩ := hp
  simp [List.getD_eq_getElem?_getD, List.getElem?_append_left h1]
theorem take_no {l : List Int} {x : Int} {j : Nat} (hj : j < l.length) (h : x ∉ l.take j) (h2 : l[j] ≠ x) : x ∉ l.take (j + 1) := by
  rw [List.take_add_one, List.getElem?_eq_getElem hj, List.mem_append]
  rintro (h3 | h3)
  · exact h h3
  · rw [Option.toList_some, List.mem_singleton] at h3
    exact h2 h3.symm
set_option maxRecDepth 10000 in
set_option maxHeartbeats 1000000 in
theorem l1HasN_c (l : List Int) (x : Int) (hl : l.length ≤ 4611686018427387904) :
    Spec Try.prog 41 [vsl 1 (fun x : Int => [vint x]) l, vint x] [] (fun r S' => r = vbool (decide (x ∈ l)) ∧ S' = []) := by
  refine Spec.of_run2 (n := 18) Try.func41 rfl Try.results41 Try.ntmps41 rfl ?_
  repeat' (first | (with_reducible refine RL.done ?_) | (with_reducible refine RL.wanted ?_ ?_; exact rfl) | ((with_reducible show RH _ _ _ _ _ _ _ _); refine RH.val (hK := ?_)) | (with_reducible first | refine Run.seq ?_ | refine Run.region ?_ | refine Run.block ?_) | (with_reducible refine seqN (K := Run _ _ _ _) ?_))
  refine Run.loop (α := Nat) (fun j => [(0, vsl 1 (fun x : Int => [vint x]) l), (1, vint x), (5, vint (j : Int))]) (fun j => []) (fun j => j ≤ l.length ∧ x ∉ l.take j) (fun j => l.length - j) 0 (by simp) (Ent.of slA .nil) ?_
  rintro j ⟨hj, hno⟩
  rcases Nat.lt_or_eq_of_le hj with h9 | rfl
  · repeat' (first | (with_reducible refine RL.done ?_) | (with_reducible refine RL.wanted ?_ ?_; exact rfl) | ((with_reducible show RH _ _ _ _ _ _ _ _); refine RH.val (hK := ?_)) | (with_reducible first | refine Run.seq ?_ | refine Run.region ?_ | refine Run.block ?_ | refine Run.skip ?_ | refine Run.exit ?_ | refine Run.ret ?_) | (with_reducible show Run _ _ (.cond _ _ _) _ _ _; refine Run.condD rfl (fun h => ?_) (fun h => ?_)) | (with_reducible first | refine seqN (K := Run _ _ _ _) ?_ | refine seqE ?_ | refine seqR ?_ | refine blockN ?_ | refine blockR ?_ | refine blockE ?_))
    all_goals first
      | (exfalso; omega)
      | (with_reducible refine seqN ?_
         exact ⟨j + 1, ⟨by omega, take_no h9 hno (by assumption)⟩, by omega, Ent.of slA .nil⟩)
      | (have hin : x ∈ l := (by assumption : l[j] = x) ▸ List.getElem_mem h9
         refine ⟨eA, _, [], resA, .ch .nil, ?_⟩; exact ⟨by rw [decide_eq_true hin]; rfl, rfl⟩)
  · rw [List.take_length] at hno
    repeat' (first | (with_reducible refine RL.done ?_) | (with_reducible refine RL.wanted ?_ ?_; exact rfl) | ((with_reducible show RH _ _ _ _ _ _ _ _); refine RH.val (hK := ?_)) | (with_reducible first | refine Run.seq ?_ | refine Run.region ?_ | refine Run.block ?_ | refine Run.skip ?_ | refine Run.exit ?_ | refine Run.ret ?_) | (with_reducible show Run _ _ (.cond _ _ _) _ _ _; refine Run.condD rfl (fun h => ?_) (fun h => ?_)) | (with_reducible first | refine seqN (K := Run _ _ _ _) ?_ | refine seqE ?_ | refine seqR ?_ | refine blockN ?_ | refine blockR ?_ | refine blockE ?_))
    all_goals first
      | (exfalso; omega)
      | (refine ⟨eA, _, [], resA, .ch .nil, ?_⟩; exact ⟨by rw [decide_eq_false hno]; rfl, rfl⟩)
theorem applyN_c (n : Int) (os : List (Int × List Int)) (op : Nat) (hop : op < os.length) (ho : os.length ≤ 4611686018427387904) (Ln : PS) (ns : List Int) (so : Sv) (k : Nat) (M : List (List Int)) (hns : ∀ x ∈ ns, 0 ≤ x ∧ x.toNat < Ln.length) (hM : chosen (Ln.map Prod.snd) ns = chosen M ns) (hap : ApOk n os[op].2 (chosen M ns) k) :
    Spec Try.prog 39 [vagg [vint n, vsl 2 (fun y : Int × (List Int) => [vint y.1, vsl 1 (fun x : Int => [vint x]) y.2]) os], vint (op : Int), vlit (vsv so), vint (k : Int)] [hrows Ln, hsl tSv (vsv so) (chosenV (Ln.map Prod.fst) ns)] (fun r S' => ∃ s : Sv, r = vlit (vsv s) ∧ S' = [hsl tInt (vsv s) (applyT n os[op].2 (chosen M ns) k), hrows Ln]) := by
  have h1 := chosenP_fst hns
  have h2 := (chosenP_snd hns).trans hM
  rw [← h1, ← h2]
  rw [← h2] at hap
  refine Spec.pre (SEnt.nilrows.trans (SEnt.pick (.cons (.tail .head) (.cons .head (.cons .head .nil))))) ((applyR_c n os op hop ho (chosenP Ln ns) Ln [] so k (fun p hp => .inl (chosenP_mem hns p hp)) hap).post ?_)
  rintro r _ ⟨s, rfl, rfl⟩
  exact SImp.of (SEnt.ch (.cons .head rfl (.cons .head rfl .nil))) ⟨s, rfl, rfl⟩
theorem findT_c (O Ln : PS) (so w : Sv) (t : List Int) (k : Nat) (hO : ∀ p ∈ O, p ∈ Ln) (hs : Str (O.map Prod.snd)) (hu : ∀ u ∈ O.map Prod.snd, u.length = k) (ht : t.length = k) (hl : O.length ≤ 1000000) (hk : k ≤ 1000000) :
    Spec Try.prog 23 [vlit (vsv so), vlit (vsv w)] [hrows Ln, hsl tInt (vsv w) t, hsl tSv (vsv so) (O.map Prod.fst)] (fun r S' => r = vtup [vint (placeOf (O.map Prod.snd) t : Int), vbool (decide (t ∈ O.map Prod.snd))] ∧ S' = [hrows Ln, hrows [(w, t)], hsl tSv (vsv so) (O.map Prod.fst)]) :=
  Spec.pre ((SEnt.pick (.cons (.tail .head) (.cons .head (.cons .head .nil)))).trans (SEnt.rowone.trans (SEnt.pick (.cons (.tail .head) (.cons .head (.cons .head .nil)))))) (findR_c O Ln [(w, t)] so w t k (fun p hp => .inl (hO p hp)) (.inr (by simp)) hs hu ht hl hk)
theorem num_step {n : Int} {k m i : Nat} {f : Int × List Int} {M L L' : List (List Int)} (h : NumIn n k m i f M L) (hl : L <+: L') (h2 : (m : Int) ∈ lowd (i : Int) ((m : Int) + 1) f.1.toNat → applyT n f.2 (chosen M (lowd (i : Int) ((m : Int) + 1) f.1.toNat)) k ∈ L') : NumIn n k m (i + 1) f M L' := fun j hj hm => by
  rcases Nat.lt_or_eq_of_le (Nat.le_of_lt_succ hj) with h8 | h8
  · exact hl.subset (h j h8 hm)
  · subst h8; exact h2 hm
abbrev ClsRes (n : Int) (os : List (Int × List Int)) (k : Nat) (G : List (List Int)) (r : VP) (S' : List HP) : Prop := ∃ (X : List (List Int)) (s : Sv), r = vtup [vlit (vsv s), vbool (decide ((X.length : Int) ≤ (mostV os : Int)))] ∧ S' = [hsl (tS tInt) (vsv s) X] ∧ ClsYes n os k G X ∧ X.length ≤ 1004
set_option maxRecDepth 10000 in
set_option maxHeartbeats 8000000 in
theorem l8Close_c (n : Int) (os : List (Int × List Int)) (k : Nat) (G : List (List Int)) (ha : algB n os = true) (hk : k ≤ 1000000) (hG : ∀ t ∈ G, TupOk n k t) (hg : G.length ≤ 1000) :
    Spec Try.prog 22 [vagg [vint n, vsl 2 (fun y : Int × (List Int) => [vint y.1, vsl 1 (fun x : Int => [vint x]) y.2]) os], vint (k : Int), vsl 1 (fun t : List Int => [vsl 1 (fun x : Int => [vint x]) t]) G] [] (ClsRes n os k G) := by
  obtain ⟨hn1, hn8, ho4, hops⟩ := algB_at ha
  have hmost := mostV_le os
  have hop0 : ∀ f ∈ os, 0 ≤ f.1 ∧ f.1 ≤ 3 := fun f hf => by
    have h := hops f hf
    simp only [opB, Bool.and_eq_true, decide_eq_true_eq] at h
    exact h.1
  refine Spec.of_run2 (n := 172) Try.func22 rfl Try.results22 Try.ntmps22 rfl ?_
  repeat' (first | (with_reducible first | refine RL.done ?_ | refine RL.app0 ?_) | (with_reducible refine RL.wanted ?_ ?_; exact rfl) | ((with_reducible show RH _ _ _ ⟨some 3, .box _ _, _, _, _, _⟩ _ _ _ _); (refine RH.boxAgg rfl rfl ?_; rintro _ _ ⟨b3, rfl, rfl⟩)) | ((with_reducible show RH _ _ _ ⟨some 24, .buildSlice _ _ _, _, _, _, _⟩ _ _ _ _); (refine RH.eff rfl rfl (EOpS.e (EOpS.slitV (by ((repeat (first | exact Elts.nil | apply Elts.one1 rfl | apply Elts.agg2 rfl)); done)) (by simp) rfl rfl)) ?_; rintro _ _ ⟨b24, rfl, rfl⟩)) | ((with_reducible show RH _ _ _ ⟨some 25, .buildSlice _ _ _, _, _, _, _⟩ _ _ _ _); (refine RH.eff rfl rfl (EOpS.e (EOpS.slitV (by ((repeat (first | exact Elts.nil | apply Elts.one1 rfl | apply Elts.agg2 rfl)); done)) (by simp) rfl rfl)) ?_; rintro _ _ ⟨b25, rfl, rfl⟩)) | ((with_reducible show RH _ _ _ ⟨some 28, .buildSlice _ _ _, _, _, _, _⟩ _ _ _ _); (refine RH.eff rfl rfl (EOpS.e (EOpS.slitV (by ((repeat (first | exact Elts.nil | apply Elts.one1 rfl | apply Elts.agg2 rfl)); done)) (by simp) rfl rfl)) ?_; rintro _ _ ⟨b28, rfl, rfl⟩)) | ((with_reducible show RH _ _ _ ⟨_, .call ⟨.value (.func 38), _, _⟩, _, _, _, _⟩ _ _ _ _); refine RH.cP Try.call38 ?_; refine ⟨_, l8Most_c _ _ (by omega), ?_⟩; rintro _ _ ⟨rfl, rfl⟩) | ((with_reducible show RH _ _ _ _ _ _ _ _); refine RH.val (hK := ?_)) | (with_reducible first | refine Run.seq ?_ | refine Run.region ?_ | refine Run.block ?_) | (with_reducible refine seqN (K := Run _ _ _ _) ?_))
  refine Run.sent (T := [hsl (tS tInt) (vsv (some ⟨b28, 0, none⟩, 0, 0)) [], hsl tSv (vsv (some ⟨b24, 0, none⟩, 0, 0)) [], hsl tSv (vsv (some ⟨b25, 0, none⟩, 0, 0)) [], hcells b3 [vint n, vsl 2 (fun y : Int × (List Int) => [vint y.1, vsl 1 (fun x : Int => [vint x]) y.2]) os]])
    ((SEnt.pick (B := [harr b25 1 (List.map vlit) [] (0 * 1), harr b24 1 (List.map vlit) [] (0 * 1), harr b28 1 (List.map vlit) [] (0 * 1)]) (by repeat (first | exact Pick.nil | (apply Pick.cons; (repeat (first | exact Rem.head | apply Rem.tail)))))).trans
      ((SEnt.packNil tSv rfl).trans ((SEnt.pick (.cons (.tail .head) (.cons .head (.cons .head .nil)))).trans ((SEnt.packNil tSv rfl).trans ((SEnt.pick (.cons (.tail (.tail .head)) (.cons .head (.cons .head .nil)))).trans ((SEnt.packNil (tS tInt) rfl).trans (SEnt.ch (.cons .head rfl (.cons .head rfl (.cons .head rfl (.cons .head rfl .nil)))))))))))  ?_
  refine Run.loop (α := Nat × Sv) (fun z => [(1, vint (k : Int)), (2, vsl 1 (fun t : List Int => [vsl 1 (fun x : Int => [vint x]) t]) G), (3, vptr b3 0), (8, vsb b24 0 0), (9, vsb b25 0 0), (10, vint (mostV os : Int)), (11, vlit (vsv z.2)), (12, vint (z.1 : Int))])
    (fun z => [hsl (tS tInt) (vsv z.2) (G.take z.1), hsl tSv (vsv (some ⟨b24, 0, none⟩, 0, 0)) [], hsl tSv (vsv (some ⟨b25, 0, none⟩, 0, 0)) [], hcells b3 [vint n, vsl 2 (fun y : Int × (List Int) => [vint y.1, vsl 1 (fun x : Int => [vint x]) y.2]) os]])
    (fun z => z.1 ≤ G.length) (fun z => G.length - z.1) (0, (some ⟨b28, 0, none⟩, 0, 0)) (Nat.zero_le _) (Ent.of slA .refl) ?_
  rintro ⟨i, s⟩ hi
  dsimp only at hi ⊢
  have hgl : (G.take i).length ≤ 1000 := by rw [List.length_take]; omega
  rcases Nat.lt_or_eq_of_le hi with h9 | h9
  · have htl := (hG _ (List.getElem_mem h9)).1
    have hd : G.take (i + 1) = G.take i ++ [G[i]] := by rw [List.take_add_one, List.getElem?_eq_getElem h9]; rfl
    repeat' (first | (with_reducible first | refine RL.done ?_ | refine RL.app1 ?_) | (with_reducible refine RL.wanted ?_ ?_; exact rfl) | ((with_reducible show RH _ _ _ ⟨some 41, .buildSlice _ _ _, _, _, _, _⟩ _ _ _ _); (refine RH.eff rfl rfl (EOpS.e (EOpS.slitV (by ((repeat (first | exact Elts.nil | apply Elts.one1 rfl | apply Elts.agg2 rfl)); done)) (by simp) rfl rfl)) ?_; rintro _ _ ⟨b41, rfl, rfl⟩)) | ((with_reducible show RH _ _ _ ⟨_, .call ⟨.value (.func 25), _, _⟩, _, _, _, _⟩ _ _ _ _); refine RH.cP Try.call25 ?_; refine ⟨_, l1Own_c _ (by omega), ?_⟩; rintro _ _ ⟨s1, rfl, rfl⟩) | ((with_reducible show RH _ _ _ ⟨_, .call ⟨.builtin .append, _, _⟩, _, _, _, _⟩ _ _ _ _); (refine RH.appR rfl rfl rfl (by repeat (first | exact Pick.nil | (apply Pick.cons; (with_reducible repeat (first | exact Rem.head | apply Rem.tail))))) (by first | omega | (simp; omega)) (by first | omega | (simp; omega)) ?_); rintro _ _ ⟨s, rfl, rfl⟩) | ((with_reducible show RH _ _ _ _ _ _ _ _); refine RH.val (hK := ?_)) | (with_reducible first | refine Run.seq ?_ | refine Run.region ?_ | refine Run.block ?_ | refine Run.skip ?_ | refine Run.exit ?_) | (with_reducible show Run _ _ (.cond _ _ _) _ _ _; refine Run.condD rfl (fun h => ?_) (fun h => ?_)) | (with_reducible first | refine seqN (K := Run _ _ _ _) ?_ | refine seqE ?_ | refine blockN ?_ | refine blockE ?_))
    all_goals first
      | (exfalso; omega)
      | (with_reducible refine seqN ?_
         exact ⟨(i + 1, _), by dsimp only; omega, by dsimp only; omega, Ent.of (by dsimp only; exact slA) (by dsimp only; rw [hd]; exact chA)⟩)
  · subst h9
    rw [List.take_length]
    repeat' (first | (with_reducible refine RL.done ?_) | (with_reducible refine RL.wanted ?_ ?_; exact rfl) | ((with_reducible show RH _ _ _ _ _ _ _ _); refine RH.val (hK := ?_)) | (with_reducible first | refine Run.seq ?_ | refine Run.region ?_ | refine Run.block ?_ | refine Run.skip ?_ | refine Run.exit ?_) | (with_reducible show Run _ _ (.cond _ _ _) _ _ _; refine Run.condD rfl (fun h => ?_) (fun h => ?_)) | (with_reducible first | refine seqN (K := Run _ _ _ _) ?_ | refine seqE ?_ | refine blockE ?_))
    all_goals first
      | (exfalso; omega)
      | skip
    refine Run.loop (α := Nat × Sv) (fun z => [(1, vint (k : Int)), (3, vptr b3 0), (8, vsb b24 0 0), (9, vsb b25 0 0), (10, vint (mostV os : Int)), (11, vlit (vsv z.2)), (13, vint (z.1 : Int))])
      (fun z => [hsl (tS tInt) (vsv z.2) (firstL n (os.take z.1) k G), hsl tSv (vsv (some ⟨b24, 0, none⟩, 0, 0)) [], hsl tSv (vsv (some ⟨b25, 0, none⟩, 0, 0)) [], hcells b3 [vint n, vsl 2 (fun y : Int × (List Int) => [vint y.1, vsl 1 (fun x : Int => [vint x]) y.2]) os]])
      (fun z => z.1 ≤ os.length) (fun z => os.length - z.1) (0, s) (Nat.zero_le _) (Ent.of slA (.cons .head (by simp [firstL]) chA)) ?_
    rintro ⟨j, s⟩ hj
    dsimp only at hj ⊢
    have hfl : (firstL n (os.take j) k G).length ≤ 1004 := by
      rw [firstL, List.length_append, List.length_map]
      have := List.length_filter_le (fun f : Int × List Int => decide (f.1 = 0)) (os.take j)
      have : (os.take j).length ≤ 4 := by rw [List.length_take]; omega
      omega
    rcases Nat.lt_or_eq_of_le hj with hop | h8
    · have hf := List.getElem_mem hop
      by_cases h0 : os[j].1 = 0
      · have hap : ApOk n os[j].2 [] k := ap_ok ha (by omega) hf (by rw [h0]; rfl) (fun u hu => by cases hu)
        have hd : firstL n (os.take (j + 1)) k G = firstL n (os.take j) k G ++ [applyT n os[j].2 [] k] := by
          rw [firstL, List.take_add_one, List.getElem?_eq_getElem hop, List.filter_append, Option.toList_some, List.filter_cons_of_pos (by simpa using h0), List.map_append, ← List.append_assoc]; rfl
        repeat' (first | (with_reducible refine RL.done ?_) | (with_reducible refine RL.wanted ?_ ?_; exact rfl) | ((with_reducible show RH _ _ _ ⟨some 60, .buildSlice _ _ _, _, _, _, _⟩ _ _ _ _); refine RH.eff rfl rfl (EOpS.e (EOpS.slit (fun t : List Int => [vsl 1 (fun x : Int => [vint x]) t]) [] (fun _ h => by cases h) .nil rfl rfl)) ?_; rintro _ _ ⟨b60, rfl, rfl⟩) | ((with_reducible show RH _ _ _ ⟨some 63, .buildSlice _ _ _, _, _, _, _⟩ _ _ _ _); (refine RH.eff rfl rfl (EOpS.e (EOpS.slitV (by ((repeat (first | exact Elts.nil | apply Elts.one1 rfl | apply Elts.agg2 rfl)); done)) (by simp) rfl rfl)) ?_; rintro _ _ ⟨b63, rfl, rfl⟩)) | ((with_reducible show RH _ _ _ ⟨_, .call ⟨.value (.func 39), _, _⟩, _, _, _, _⟩ _ _ _ _); refine RH.cL Try.call39 ?_; apply Exists.intro; apply And.intro; (focus ((repeat (first | exact LVs.nil | (apply LVs.arr; (with_reducible repeat (exact Has.head)); (exact rfl); exact rfl) | apply LVs.agg | apply LVs.refl)); done)); refine ⟨_, l8Apply_c n os j hop (by omega) [] k hap, (by intro r H h; first | (obtain ⟨rfl, rfl⟩ := h; exact ⟨inferInstance, inferInstance⟩) | (obtain ⟨_, rfl, rfl⟩ := h; exact ⟨inferInstance, inferInstance⟩) | (obtain ⟨_, _, rfl, rfl⟩ := h; exact ⟨inferInstance, inferInstance⟩) | (obtain ⟨_, _, rfl, rfl, _⟩ := h; exact ⟨inferInstance, inferInstance⟩)), ?_⟩; rintro _ _ ⟨s62, rfl, rfl⟩; refine RL.nm ?_) | ((with_reducible show RH _ _ _ ⟨_, .call ⟨.builtin .append, _, _⟩, _, _, _, _⟩ _ _ _ _); (refine RH.appR rfl rfl rfl (by repeat (first | exact Pick.nil | (apply Pick.cons; (with_reducible repeat (first | exact Rem.head | apply Rem.tail))))) (by first | omega | (simp; omega)) (by first | omega | (simp; omega)) ?_); rintro _ _ ⟨s, rfl, rfl⟩) | ((with_reducible show RH _ _ _ _ _ _ _ _); refine RH.val (hK := ?_)) | (with_reducible first | refine Run.seq ?_ | refine Run.region ?_ | refine Run.block ?_ | refine Run.skip ?_ | refine Run.exit ?_) | (with_reducible show Run _ _ (.cond _ _ _) _ _ _; refine Run.condD rfl (fun h => ?_) (fun h => ?_)) | (with_reducible first | refine seqN (K := Run _ _ _ _) ?_ | refine seqE ?_ | refine blockN ?_ | refine blockE ?_))
        all_goals first
          | (exfalso; omega)
          | (with_reducible refine seqN ?_
             exact ⟨(j + 1, _), by dsimp only; omega, by dsimp only; omega, Ent.of (by dsimp only; exact slA) (by dsimp only; rw [hd]; exact chA)⟩)
      · have hd : firstL n (os.take (j + 1)) k G = firstL n (os.take j) k G := by
          rw [firstL, List.take_add_one, List.getElem?_eq_getElem hop, List.filter_append, Option.toList_some, List.filter_cons_of_neg (by simpa using h0), List.filter_nil, List.append_nil]; rfl
        repeat' (first | (with_reducible refine RL.done ?_) | (with_reducible refine RL.wanted ?_ ?_; exact rfl) | ((with_reducible show RH _ _ _ ⟨some 60, .buildSlice _ _ _, _, _, _, _⟩ _ _ _ _); (refine RH.eff rfl rfl (EOpS.e (EOpS.slitV (by ((repeat (first | exact Elts.nil | apply Elts.one1 rfl | apply Elts.agg2 rfl)); done)) (by simp) rfl rfl)) ?_; rintro _ _ ⟨b60, rfl, rfl⟩)) | ((with_reducible show RH _ _ _ _ _ _ _ _); refine RH.val (hK := ?_)) | (with_reducible first | refine Run.seq ?_ | refine Run.region ?_ | refine Run.block ?_ | refine Run.skip ?_ | refine Run.exit ?_) | (with_reducible show Run _ _ (.cond _ _ _) _ _ _; refine Run.condD rfl (fun h => ?_) (fun h => ?_)) | (with_reducible first | refine seqN (K := Run _ _ _ _) ?_ | refine seqE ?_ | refine blockN ?_ | refine blockE ?_))
        all_goals first
          | (exfalso; omega)
          | (with_reducible refine seqN ?_
             exact ⟨(j + 1, s), by dsimp only; omega, by dsimp only; omega, Ent.of (by dsimp only; exact slA) (by dsimp only; rw [hd]; exact chA)⟩)
    · subst h8
      rw [List.take_length]
      rw [List.take_length] at hfl
      repeat' (first | (with_reducible refine RL.done ?_) | (with_reducible refine RL.wanted ?_ ?_; exact rfl) | ((with_reducible show RH _ _ _ ⟨some 60, .buildSlice _ _ _, _, _, _, _⟩ _ _ _ _); (refine RH.eff rfl rfl (EOpS.e (EOpS.slitV (by ((repeat (first | exact Elts.nil | apply Elts.one1 rfl | apply Elts.agg2 rfl)); done)) (by simp) rfl rfl)) ?_; rintro _ _ ⟨b60, rfl, rfl⟩)) | ((with_reducible show RH _ _ _ _ _ _ _ _); refine RH.val (hK := ?_)) | (with_reducible first | refine Run.seq ?_ | refine Run.region ?_ | refine Run.block ?_ | refine Run.skip ?_ | refine Run.exit ?_) | (with_reducible show Run _ _ (.cond _ _ _) _ _ _; refine Run.condD rfl (fun h => ?_) (fun h => ?_)) | (with_reducible first | refine seqN (K := Run _ _ _ _) ?_ | refine seqE ?_ | refine blockN ?_ | refine blockE ?_))
      all_goals first
        | (exfalso; omega)
        | skip
      refine Run.unrows .head ?_
      intro F hF
      have hFl : F.length = (firstL n os k G).length := by rw [← hF]; simp
      have hFc : ∀ p ∈ F, Clo n os k G p.2 := fun p hp => first_clo _ (by rw [← hF]; exact List.mem_map.2 ⟨p, hp, rfl⟩)
      refine Run.frzSl (t := tSv) 11 rfl .head ?_
      refine Run.sent (T := [hrows [], hrows (F.drop 0), hsl tSv (vsv (some ⟨b24, 0, none⟩, 0, 0)) [], hsl tSv (vsv (some ⟨b25, 0, none⟩, 0, 0)) [], hcells b3 [vint n, vsl 2 (fun y : Int × (List Int) => [vint y.1, vsl 1 (fun x : Int => [vint x]) y.2]) os]]) (SEnt.nilrows.trans (SEnt.ch (.cons .head rfl (.cons .head rfl (.cons .head rfl (.cons .head rfl (.cons .head rfl .nil))))))) ?_
      refine Run.loop (α := Nat × Sv × Sv × PS × PS) (fun z => [(1, vint (k : Int)), (3, vptr b3 0), (8, vlit (vsv z.2.1)), (9, vlit (vsv z.2.2.1)), (10, vint (mostV os : Int)), (11, vsl 1 (fun s : Sv => [vlit (vsv s)]) (F.map Prod.fst)), (14, vint (z.1 : Int))])
        (fun z => [hrows z.2.2.2.1, hrows (F.drop z.1), hsl tSv (vsv z.2.1) (z.2.2.2.2.map Prod.fst), hsl tSv (vsv z.2.2.1) (z.2.2.2.1.map Prod.fst), hcells b3 [vint n, vsl 2 (fun y : Int × (List Int) => [vint y.1, vsl 1 (fun x : Int => [vint x]) y.2]) os]])
        (fun z => z.1 ≤ F.length ∧ ClsInv n os k G z.2.2.2.1 z.2.2.2.2 ∧ z.2.2.2.1.length ≤ z.1 ∧ ∀ p ∈ F.take z.1, p.2 ∈ z.2.2.2.1.map Prod.snd) (fun z => F.length - z.1) (0, (some ⟨b24, 0, none⟩, 0, 0), (some ⟨b25, 0, none⟩, 0, 0), [], []) ⟨Nat.zero_le _, ClsInv.nil n os k G, Nat.le_refl _, fun p h => by simp at h⟩ (Ent.of slA .refl) ?_
      rintro ⟨i, so, sl, Ln, O⟩ ⟨hi, hinv, hlen, hin⟩
      dsimp only at hi hinv hlen hin ⊢
      have hLo := hinv.len
      have hOa : ∀ b : PS, ∀ p ∈ O, p ∈ Ln ∨ p ∈ b := fun b p hp => .inl (hinv.perm.mem_iff.1 hp)
      have hOu : ∀ u ∈ O.map Prod.snd, u.length = k := fun u hu => ((hinv.clo u ((hinv.mem u).1 hu)).ok ha (by omega) hG).1
      rcases Nat.lt_or_eq_of_le hi with h9 | h9
      · have hcl := hFc _ (List.getElem_mem h9)
        have htk := (hcl.ok ha (by omega) hG).1
        have hdr : F.drop i = [F[i]] ++ F.drop (i + 1) := List.drop_eq_getElem_cons h9
        have hdm : F[i] ∈ F.drop i := by rw [hdr]; exact List.mem_append.2 (.inl (List.mem_singleton.2 rfl))
        have hfs : (F.map Prod.fst)[i]'(by rw [List.length_map]; exact h9) = F[i].1 := by simp
        have hw : ((F.map Prod.fst)[i]'(by rw [List.length_map]; exact h9), F[i].2) ∈ Ln ∨ ((F.map Prod.fst)[i]'(by rw [List.length_map]; exact h9), F[i].2) ∈ F.drop i := .inr (by rw [hfs]; exact hdm)
        have hlf : (F.map Prod.fst).length = F.length := List.length_map _
        have hll : (Ln.map Prod.fst).length = Ln.length := List.length_map _
        by_cases hno : F[i].2 ∈ O.map Prod.snd
        · have hin2 : ∀ p ∈ F.take (i + 1), p.2 ∈ Ln.map Prod.snd := fun p hp => by
            rw [List.take_add_one, List.getElem?_eq_getElem h9, List.mem_append] at hp
            rcases hp with hp | hp
            · exact hin p hp
            · rw [Option.toList_some, List.mem_singleton] at hp
              subst hp
              exact (hinv.mem _).1 hno
          repeat' (first | (with_reducible refine RL.done ?_) | (with_reducible refine RL.wanted ?_ ?_; exact rfl) | ((with_reducible show RH _ _ _ ⟨_, .call ⟨.value (.func 23), _, _⟩, _, _, _, _⟩ _ _ _ _); refine RH.cW Try.call23 ?_; refine ⟨_, _, _, (by repeat (first | exact Pick.nil | (apply Pick.cons; (with_reducible repeat (first | exact Rem.head | apply Rem.tail))))), findR_c O Ln (F.drop i) so _ F[i].2 k (hOa _) hw hinv.str hOu htk (by omega) hk, ?_⟩; rintro _ _ ⟨rfl, rfl⟩; refine RL.nm ?_) | ((with_reducible show RH _ _ _ _ _ _ _ _); refine RH.val (hK := ?_)) | (with_reducible first | refine Run.seq ?_ | refine Run.region ?_ | refine Run.block ?_ | refine Run.skip ?_ | refine Run.exit ?_) | (with_reducible show Run _ _ (.cond _ _ _) _ _ _; first | refine Run.condD rfl (fun h => ?_) (fun h => ?_) | refine Run.condND rfl (fun h => ?_) (fun h => ?_)) | (with_reducible first | refine seqN (K := Run _ _ _ _) ?_ | refine seqE ?_ | refine blockN ?_ | refine blockE ?_))
          all_goals first
            | (exfalso; omega)
            | (exfalso; simp_all; done)
            | (with_reducible refine seqN ?_
               exact ⟨(i + 1, so, sl, Ln, O), ⟨by dsimp only; omega, hinv, by dsimp only; omega, hin2⟩, by dsimp only; omega, ((SEnt.pick (B := [hrows (F.drop i)]) (by repeat (first | exact Pick.nil | (apply Pick.cons; (repeat (first | exact Rem.head | apply Rem.tail)))))).trans (SEnt.subrows (ps' := F.drop (i + 1)) (by rw [hdr]; exact List.sublist_append_right _ _))).ent.trans (Ent.of (by dsimp only; exact slA) (by dsimp only; exact (by repeat (first | exact Ch.nil | refine Ch.same (by repeat (first | exact Rem.head | apply Rem.tail)) ?_))))⟩)
        · have hadd := hinv.add (w := F[i].1) hcl hOu htk hno
          have hin2 : ∀ p ∈ F.take (i + 1), p.2 ∈ (Ln ++ [F[i]]).map Prod.snd := fun p hp => by
            rw [List.take_add_one, List.getElem?_eq_getElem h9, List.mem_append] at hp
            rw [List.map_append, List.mem_append]
            rcases hp with hp | hp
            · exact .inl (hin p hp)
            · rw [Option.toList_some, List.mem_singleton] at hp
              subst hp
              exact .inr (by simp)
          have e1 := insO_fst O F[i].1 F[i].2
          have e2 : (Ln ++ [F[i]]).map Prod.fst = Ln.map Prod.fst ++ [F[i].1] := by simp
          repeat' (first | (with_reducible refine RL.done ?_) | (with_reducible refine RL.wanted ?_ ?_; exact rfl) | ((with_reducible show RH _ _ _ ⟨some 93, .buildSlice _ _ _, _, _, _, _⟩ _ _ _ _); (refine RH.eff rfl rfl (EOpS.e (EOpS.slitV (by ((repeat (first | exact Elts.nil | apply Elts.one1 rfl | apply Elts.agg2 rfl)); done)) (by simp) rfl rfl)) ?_; rintro _ _ ⟨b93, rfl, rfl⟩)) | ((with_reducible show RH _ _ _ ⟨_, .call ⟨.value (.func 23), _, _⟩, _, _, _, _⟩ _ _ _ _); refine RH.cW Try.call23 ?_; refine ⟨_, _, _, (by repeat (first | exact Pick.nil | (apply Pick.cons; (with_reducible repeat (first | exact Rem.head | apply Rem.tail))))), findR_c O Ln (F.drop i) so _ F[i].2 k (hOa _) hw hinv.str hOu htk (by omega) hk, ?_⟩; rintro _ _ ⟨rfl, rfl⟩; refine RL.nm ?_) | ((with_reducible show RH _ _ _ ⟨_, .call ⟨.value (.func 40), _, _⟩, _, _, _, _⟩ _ _ _ _); refine RH.cW Try.call40 ?_; refine ⟨_, _, _, (by repeat (first | exact Pick.nil | (apply Pick.cons; (with_reducible repeat (first | exact Rem.head | apply Rem.tail))))), putR_c O Ln (F.drop i) so _ F[i].2 k (hOa _) hw hinv.str hOu htk (by omega) hk hno, ?_⟩; rintro _ _ ⟨s87, rfl, rfl⟩; refine RL.nm ?_) | ((with_reducible show RH _ _ _ ⟨some 94, .call ⟨.builtin .append, _, _⟩, _, _, _, _⟩ _ _ _ _); (refine RH.appSv rfl rfl rfl (by repeat (first | exact Pick.nil | (apply Pick.cons; (with_reducible repeat (first | exact Rem.head | apply Rem.tail))))) (by first | omega | (simp; omega)) (by first | omega | (simp; omega)) ?_); rintro _ _ ⟨s94, rfl, rfl⟩) | ((with_reducible show RH _ _ _ _ _ _ _ _); refine RH.val (hK := ?_)) | (with_reducible first | refine Run.seq ?_ | refine Run.region ?_ | refine Run.block ?_ | refine Run.skip ?_ | refine Run.exit ?_) | (with_reducible show Run _ _ (.cond _ _ _) _ _ _; first | refine Run.condD rfl (fun h => ?_) (fun h => ?_) | refine Run.condND rfl (fun h => ?_) (fun h => ?_)) | (with_reducible first | refine seqN (K := Run _ _ _ _) ?_ | refine seqE ?_ | refine blockN ?_ | refine blockE ?_))
          all_goals first
            | (exfalso; omega)
            | (exfalso; simp_all; done)
            | (with_reducible refine seqN ?_
               exact ⟨(i + 1, s87, s94, Ln ++ [F[i]], insO O F[i].1 F[i].2), ⟨by dsimp only; omega, hadd, by dsimp only; rw [List.length_append, List.length_singleton]; omega, hin2⟩, by dsimp only; omega, ((SEnt.pick (B := [hrows Ln, hrows (F.drop i)]) (by repeat (first | exact Pick.nil | (apply Pick.cons; (repeat (first | exact Rem.head | apply Rem.tail)))))).trans (by rw [hdr]; exact SEnt.moverow)).ent.trans (Ent.of (by dsimp only; exact slA) (by dsimp only; rw [e1, e2, ← hfs]; exact (by repeat (first | exact Ch.nil | refine Ch.same (by repeat (first | exact Rem.head | apply Rem.tail)) ?_))))⟩)
      · subst h9
        have hFin : ∀ t ∈ firstL n os k G, t ∈ Ln.map Prod.snd := fun t ht => by
          rw [← hF] at ht
          obtain ⟨p, hp, rfl⟩ := List.mem_map.1 ht
          exact hin p (by rw [List.take_length]; exact hp)
        have hlf : (F.map Prod.fst).length = F.length := List.length_map _
        repeat' (first | (with_reducible refine RL.done ?_) | (with_reducible refine RL.wanted ?_ ?_; exact rfl) | ((with_reducible show RH _ _ _ _ _ _ _ _); refine RH.val (hK := ?_)) | (with_reducible first | refine Run.seq ?_ | refine Run.region ?_ | refine Run.block ?_ | refine Run.skip ?_ | refine Run.exit ?_) | (with_reducible show Run _ _ (.cond _ _ _) _ _ _; refine Run.condD rfl (fun h => ?_) (fun h => ?_)) | (with_reducible first | refine seqN (K := Run _ _ _ _) ?_ | refine seqE ?_ | refine blockE ?_))
        all_goals first
          | (exfalso; omega)
          | skip
        refine Run.loop (α := Nat × Sv × Sv × PS × PS) (fun z => [(1, vint (k : Int)), (3, vptr b3 0), (8, vlit (vsv z.2.1)), (9, vlit (vsv z.2.2.1)), (10, vint (mostV os : Int)), (17, vint (z.1 : Int))])
          (fun z => [hrows z.2.2.2.1, hsl tSv (vsv z.2.1) (z.2.2.2.2.map Prod.fst), hsl tSv (vsv z.2.2.1) (z.2.2.2.1.map Prod.fst), hcells b3 [vint n, vsl 2 (fun y : Int × (List Int) => [vint y.1, vsl 1 (fun x : Int => [vint x]) y.2]) os]])
          (fun z => z.1 ≤ z.2.2.2.1.length ∧ ClsInv n os k G z.2.2.2.1 z.2.2.2.2 ∧ z.2.2.2.1.length ≤ 1004 ∧ (∀ t ∈ firstL n os k G, t ∈ z.2.2.2.1.map Prod.snd) ∧ (z.2.2.2.1.length ≤ mostV os → AllIn n os k ((z.2.2.2.1.map Prod.snd).take z.1) (z.2.2.2.1.map Prod.snd))) (fun z => 1005 - z.1) (0, so, sl, Ln, O) ⟨Nat.zero_le _, hinv, (by show Ln.length ≤ 1004; omega), hFin, fun _ f hf h0 ts hl ht => by
            exfalso
            cases ts with
            | nil => simp at hl; omega
            | cons u ts => have := ht u (by simp); simp at this⟩ (Ent.of slA chA) ?_
        clear hFin hinv hlen hin hLo hOa hOu
        rintro ⟨m, so, sl, Ln0, O⟩ ⟨hm, hinv, hlen, hFin, hall⟩
        dsimp only at hm hinv hlen hFin hall ⊢
        have hll0 : (Ln0.map Prod.fst).length = Ln0.length := List.length_map _
        by_cases hgo : m < Ln0.length ∧ Ln0.length ≤ mostV os
        · obtain ⟨hgo1, hgo2⟩ := hgo
          obtain ⟨M, hMd⟩ : ∃ M, (Ln0.map Prod.snd).take (m + 1) = M := ⟨_, rfl⟩
          have hMl : M.length = m + 1 := by rw [← hMd, List.length_take, List.length_map]; omega
          have hMp : M <+: Ln0.map Prod.snd := by rw [← hMd]; exact List.take_prefix _ _
          have hMm : M.take m = (Ln0.map Prod.snd).take m := by rw [← hMd, List.take_take, Nat.min_eq_left (by omega)]
          repeat' (first | (with_reducible refine RL.done ?_) | (with_reducible refine RL.wanted ?_ ?_; exact rfl) | ((with_reducible show RH _ _ _ _ _ _ _ _); refine RH.val (hK := ?_)) | (with_reducible show RL _ _ _ (_ :: _) _ _ _; first | refine RL.guardYes rfl rfl rfl rfl ?_ | refine RL.guardNoS rfl rfl rfl rfl rfl rfl ?_ | refine RL.splitD rfl rfl rfl (fun h => ?_) (fun h => ?_)) | (with_reducible first | refine Run.seq ?_ | refine Run.region ?_ | refine Run.block ?_ | refine Run.skip ?_ | refine Run.exit ?_ | refine Run.ret ?_) | (with_reducible show Run _ _ (.cond _ _ _) _ _ _; first | refine Run.condF rfl ?_ | refine Run.condD rfl (fun h => ?_) (fun h => ?_)) | (with_reducible first | refine seqN (K := Run _ _ _ _) ?_ | refine seqE ?_ | refine blockE ?_))
          all_goals first
            | (exfalso; omega)
            | skip
          refine Run.loop (α := Nat × Sv × Sv × PS × PS) (fun z => [(1, vint (k : Int)), (3, vptr b3 0), (8, vlit (vsv z.2.1)), (9, vlit (vsv z.2.2.1)), (10, vint (mostV os : Int)), (17, vint (m : Int)), (18, vint (z.1 : Int))])
            (fun z => [hrows z.2.2.2.1, hsl tSv (vsv z.2.1) (z.2.2.2.2.map Prod.fst), hsl tSv (vsv z.2.2.1) (z.2.2.2.1.map Prod.fst), hcells b3 [vint n, vsl 2 (fun y : Int × (List Int) => [vint y.1, vsl 1 (fun x : Int => [vint x]) y.2]) os]])
            (fun z => z.1 ≤ os.length ∧ ClsInv n os k G z.2.2.2.1 z.2.2.2.2 ∧ z.2.2.2.1.length ≤ 1004 ∧ Ln0.map Prod.snd <+: z.2.2.2.1.map Prod.snd ∧ (z.2.2.2.1.length ≤ mostV os → ∀ f ∈ os.take z.1, 0 < f.1 → ValIn n k f M (z.2.2.2.1.map Prod.snd))) (fun z => os.length - z.1) (0, so, sl, Ln0, O) ⟨Nat.zero_le _, hinv, hlen, List.prefix_refl _, fun _ f hf => by simp at hf⟩ (Ent.of slA chA) ?_
          clear hinv hlen
          rintro ⟨op, so, sl, Ln, O⟩ ⟨hopl, hinv, hlen, hpre, hcov⟩
          dsimp only at hopl hinv hlen hpre hcov ⊢
          rcases Nat.lt_or_eq_of_le hopl with hop | h8
          · have hf := List.getElem_mem hop
            have hf3 := hop0 _ hf
            repeat' (first | (with_reducible refine RL.done ?_) | (with_reducible refine RL.wanted ?_ ?_; exact rfl) | ((with_reducible show Run _ _ (.region 25 _ true) (Post.seq _ _) _ _); refine Run.cut (α := Nat) (fun b => [(1, vint (k : Int)), (3, vptr b3 0), (8, vlit (vsv so)), (9, vlit (vsv sl)), (10, vint (mostV os : Int)), (17, vint (m : Int)), (18, vint (op : Int)), (19, vsb b (os[op].1.toNat) (os[op].1.toNat)), (20, vbool (decide ((0 : Int) < os[op].1)))]) (fun b => [harr b 1 (fun x : Int => [vint x]) (List.replicate (os[op].1.toNat) (0 : Int)) (os[op].1.toNat * 1), hrows Ln, hsl tSv (vsv so) (O.map Prod.fst), hsl tSv (vsv sl) (Ln.map Prod.fst), hcells b3 [vint n, vsl 2 (fun y : Int × (List Int) => [vint y.1, vsl 1 (fun x : Int => [vint x]) y.2]) os]]) (fun _ => True) ?_ ?_; rotate_left; rintro b120 -; (try dsimp only)) | ((with_reducible show Run _ _ (.region 25 _ true) _ _ _); refine Run.regionD (fun i => false) rfl ?_; change RD _ _ _ _ _ _ 16 (dm 16 0) _ _) | ((with_reducible show RD _ _ 25 _ _ _ _ _ _ _); first | ((with_reducible show RD _ _ _ _ _ _ _ (dm 16 0) _ _); refine RD.tk 0 (dm 16 49274) (dm 16 1) (hK := ?_)) | ((with_reducible show RD _ _ _ _ _ _ _ (dm 16 1) _ _); refine RD.tk 1 (dm 16 49272) (dm 16 3) (hK := ?_)) | ((with_reducible show RD _ _ _ _ _ _ _ (dm 16 3) _ _); refine RD.tk 2 (dm 16 49272) (dm 16 7) (hK := ?_)) | ((with_reducible show RD _ _ _ _ _ _ _ (dm 16 7) _ _); refine RD.tk 3 (dm 16 49264) (dm 16 15) (hK := ?_)) | ((with_reducible show RD _ _ _ _ _ _ _ (dm 16 15) _ _); refine RD.tk 4 (dm 16 49248) (dm 16 31) (hK := ?_)) | ((with_reducible show RD _ _ _ _ _ _ _ (dm 16 31) _ _); refine RD.tk 5 (dm 16 49216) (dm 16 63) (hK := ?_)) | ((with_reducible show RD _ _ _ _ _ _ _ (dm 16 63) _ _); refine RD.tk 7 (dm 16 48384) (dm 16 191) (hK := ?_)) | ((with_reducible show RD _ _ _ _ _ _ _ (dm 16 191) _ _); refine RD.tk 8 (dm 16 48128) (dm 16 447) (hK := ?_)) | ((with_reducible show RD _ _ _ _ _ _ _ (dm 16 447) _ _); refine RD.tk 9 (dm 16 48128) (dm 16 959) (hK := ?_)) | ((with_reducible show RD _ _ _ _ _ _ _ (dm 16 959) _ _); refine RD.tk 10 (dm 16 47104) (dm 16 1983) (hK := ?_)) | ((with_reducible show RD _ _ _ _ _ _ _ (dm 16 1983) _ _); refine RD.tk 11 (dm 16 45056) (dm 16 4031) (hK := ?_)) | ((with_reducible show RD _ _ _ _ _ _ _ (dm 16 4031) _ _); refine RD.tk 12 (dm 16 40960) (dm 16 8127) (hK := ?_)) | ((with_reducible show RD _ _ _ _ _ _ _ (dm 16 8127) _ _); refine RD.tk 13 (dm 16 32768) (dm 16 16319) (hK := ?_)) | ((with_reducible show RD _ _ _ _ _ _ _ (dm 16 16319) _ _); refine RD.a1 6 ?_) | ((with_reducible show RD _ _ _ _ _ _ _ (dm 16 16383) _ _); refine RD.tk 14 (dm 16 32768) (dm 16 32767) (hK := ?_)) | ((with_reducible show RD _ _ _ _ _ _ _ (dm 16 32767) _ _); refine RD.tk 15 (dm 16 0) (dm 16 65535) (hK := ?_)) | ((with_reducible show RD _ _ _ _ _ _ 0 _ _ _); refine RD.done (by kernel_rfl) ?_)) | ((with_reducible show RO _ _ 25 _ _ _ _ _ _ _ _); ((with_reducible show RO _ _ _ _ _ _ _ (dm 16 16319) 6 _ _); (refine RO.eS (dm 16 16383) (hv := by show EOpS _ _ _ _ ⟨_, .makeSlice _ _ _, _, _, _, _⟩ _; exact EOpS.makeZ (α := Int) (fun x => [vint x]) 0 (fun c => .cons rfl .nil) rfl rfl (by omega) (by omega) (by omega)) (h := ?_); rintro _ _ ⟨b120, rfl, rfl⟩))) | ((with_reducible show RH _ _ _ _ _ _ _ _); refine RH.val (hK := ?_)) | (with_reducible first | refine Run.seq ?_ | refine Run.region ?_ | refine Run.block ?_ | refine Run.skip ?_ | refine Run.exit ?_) | (with_reducible show Run _ _ (.cond _ _ _) _ _ _; refine Run.condD rfl (fun h => ?_) (fun h => ?_)) | (with_reducible first | refine seqN (K := Run _ _ _ _) ?_ | refine seqE ?_ | refine blockN ?_ | refine blockE ?_))
            all_goals first
              | (exfalso; omega)
              | exact Met.mk b120 trivial (Ent.of slA chA)
              | skip
            have hc1 : ((m + 1 : Nat) : Int) = (m : Int) + 1 := by omega
            refine Run.sent (T := [hsl tInt (vsv (some ⟨b120, 0, none⟩, os[op].1.toNat, os[op].1.toNat)) (List.replicate os[op].1.toNat 0), hrows Ln, hsl tSv (vsv so) (O.map Prod.fst), hsl tSv (vsv sl) (Ln.map Prod.fst), hcells b3 [vint n, vsl 2 (fun y : Int × (List Int) => [vint y.1, vsl 1 (fun x : Int => [vint x]) y.2]) os]]) (SEnt.pack (fun _ => rfl) (by simp)) ?_
            refine Run.loop (α := Nat × Bool × Sv × List Int × Sv × Sv × PS × PS) (fun z => [(1, vint (k : Int)), (3, vptr b3 0), (8, vlit (vsv z.2.2.2.2.1)), (9, vlit (vsv z.2.2.2.2.2.1)), (10, vint (mostV os : Int)), (17, vint (m : Int)), (18, vint (op : Int)), (19, vlit (vsv z.2.2.1)), (20, vbool z.2.1)])
              (fun z => [hsl tInt (vsv z.2.2.1) z.2.2.2.1, hrows z.2.2.2.2.2.2.1, hsl tSv (vsv z.2.2.2.2.1) (z.2.2.2.2.2.2.2.map Prod.fst), hsl tSv (vsv z.2.2.2.2.2.1) (z.2.2.2.2.2.2.1.map Prod.fst), hcells b3 [vint n, vsl 2 (fun y : Int × (List Int) => [vint y.1, vsl 1 (fun x : Int => [vint x]) y.2]) os]])
              (fun z => ClsInv n os k G z.2.2.2.2.2.2.1 z.2.2.2.2.2.2.2 ∧ z.2.2.2.2.2.2.1.length ≤ 1004 ∧ Ln0.map Prod.snd <+: z.2.2.2.2.2.2.1.map Prod.snd ∧ (z.2.2.2.2.2.2.1.length ≤ mostV os → ∀ f ∈ os.take op, 0 < f.1 → ValIn n k f M (z.2.2.2.2.2.2.1.map Prod.snd)) ∧ (z.2.2.2.2.2.2.1.length ≤ mostV os → NumIn n k m z.1 os[op] M (z.2.2.2.2.2.2.1.map Prod.snd)) ∧ z.2.1 = decide (0 < os[op].1 ∧ (z.1 : Int) < pw ((m : Int) + 1) os[op].1.toNat) ∧ (z.2.1 = true → z.2.2.2.1 = lowd (z.1 : Int) ((m : Int) + 1) os[op].1.toNat))
              (fun z => (pw ((m : Int) + 1) os[op].1.toNat).toNat - z.1) (0, decide ((0 : Int) < os[op].1), (some ⟨b120, 0, none⟩, os[op].1.toNat, os[op].1.toNat), List.replicate os[op].1.toNat 0, so, sl, Ln, O)
              ⟨hinv, hlen, hpre, hcov, fun _ j hj => absurd hj (by simp), (by
                apply decide_eq_decide.2
                have h1 := (more_iff (m + 1) os[op].1.toNat).1 (.inr (by omega))
                rw [hc1] at h1
                exact ⟨fun h => ⟨h, h1⟩, fun h => h.1⟩), fun _ => (lowd_zero _ _).symm⟩ (Ent.of slA .refl) ?_
            clear hinv hlen hpre hcov
            rintro ⟨i, mr, u, L, so, sl, Ln, O⟩ ⟨hinv, hlen, hpre, hcov, hnumc, hmr, hL⟩
            dsimp only at hinv hlen hpre hcov hnumc hmr hL ⊢
            have hLo := hinv.len
            have hOL : ∀ p ∈ O, p ∈ Ln := fun p hp => hinv.perm.mem_iff.1 hp
            have hOa : ∀ b : PS, ∀ p ∈ O, p ∈ Ln ∨ p ∈ b := fun b p hp => .inl (hOL p hp)
            have hOu : ∀ u ∈ O.map Prod.snd, u.length = k := fun u hu => ((hinv.clo u ((hinv.mem u).1 hu)).ok ha (by omega) hG).1
            have hpl := hpre.length_le
            rw [List.length_map, List.length_map] at hpl
            have hll : (Ln.map Prod.fst).length = Ln.length := List.length_map _
            by_cases hgoE : mr = true ∧ Ln.length ≤ mostV os
            · obtain ⟨hmt, hsm⟩ := hgoE
              obtain rfl := hL hmt
              subst hmt
              obtain ⟨h0, hi⟩ := of_decide_eq_true hmr.symm
              have hlw := low_at (c := m + 1) (i := i) (k := os[op].1.toNat) (by rw [hc1]; exact hi)
              rw [hc1] at hlw
              have hnum : ∀ x ∈ (lowd (i : Int) ((m : Int) + 1) os[op].1.toNat), 0 ≤ x ∧ x.toNat < Ln.length := fun x hx => ⟨(hlw x hx).1, by have := (hlw x hx).2; omega⟩
              have hnm : ∀ x ∈ (lowd (i : Int) ((m : Int) + 1) os[op].1.toNat), 0 ≤ x ∧ x.toNat < (Ln.map Prod.fst).length := fun x hx => by rw [hll]; exact hnum x hx
              have hll3 := lowd_length (i : Int) ((m : Int) + 1) os[op].1.toNat
              have hMns : chosen (Ln.map Prod.snd) (lowd (i : Int) ((m : Int) + 1) os[op].1.toNat) = chosen M (lowd (i : Int) ((m : Int) + 1) os[op].1.toNat) := chosen_pref (hMp.trans hpre) (fun x hx => ⟨(hlw x hx).1, by rw [hMl]; exact (hlw x hx).2⟩)
              have hMc : ∀ u, u ∈ chosen M (lowd (i : Int) ((m : Int) + 1) os[op].1.toNat) → Clo n os k G u := fun u hu => by
                obtain ⟨x, hx, rfl⟩ := List.mem_map.1 hu
                have h1 := (hlw x hx).2
                rw [List.getD_eq_getElem?_getD, List.getElem?_eq_getElem (by omega)]
                exact hinv.clo _ ((hMp.trans hpre).subset (List.getElem_mem _))
              have hap : ApOk n os[op].2 (chosen M (lowd (i : Int) ((m : Int) + 1) os[op].1.toNat)) k := ap_ok ha (by omega) hf (by simp [chosen, hll3]) (fun u hu => (hMc u hu).ok ha (by omega) hG)
              have hcl : Clo n os k G (applyT n os[op].2 (chosen M (lowd (i : Int) ((m : Int) + 1) os[op].1.toNat)) k) := .op hf (by simp [chosen, hll3]) hMc
              have htk : (applyT n os[op].2 (chosen M (lowd (i : Int) ((m : Int) + 1) os[op].1.toNat)) k).length = k := applyT_length _ _ _ _
              obtain ⟨hx1, hx2⟩ := next_at (m + 1) os[op].1.toNat (i := i) (by rw [hc1]; exact hi)
              rw [hc1] at hx1 hx2
              have hmr' : (nextL ((m : Int) + 1) (lowd (i : Int) ((m : Int) + 1) os[op].1.toNat)).2 = decide (0 < os[op].1 ∧ ((i + 1 : Nat) : Int) < pw ((m : Int) + 1) os[op].1.toNat) := by
                rw [hx1]
                exact decide_eq_decide.2 ⟨fun h => ⟨h0, by omega⟩, fun h => by omega⟩
              have hL' : (nextL ((m : Int) + 1) (lowd (i : Int) ((m : Int) + 1) os[op].1.toNat)).2 = true → (nextL ((m : Int) + 1) (lowd (i : Int) ((m : Int) + 1) os[op].1.toNat)).1 = lowd ((i + 1 : Nat) : Int) ((m : Int) + 1) os[op].1.toNat := fun h => by
                rw [hx1] at h
                exact hx2 (of_decide_eq_true h)
              by_cases hmm : (m : Int) ∈ (lowd (i : Int) ((m : Int) + 1) os[op].1.toNat)
              · by_cases hno : (applyT n os[op].2 (chosen M (lowd (i : Int) ((m : Int) + 1) os[op].1.toNat)) k) ∈ O.map Prod.snd
                · have hnx := num_step (hnumc hsm) (List.prefix_refl _) (fun _ => (hinv.mem _).1 hno)
                  repeat' (first | (with_reducible refine RL.done ?_) | (with_reducible refine RL.wanted ?_ ?_; exact rfl) | ((with_reducible show Run _ _ (.region 28 _ true) _ _ _); refine Run.regionD (fun i => i == 6) rfl ?_; change RD _ _ _ _ _ _ 8 (dm 8 0) _ _) | ((with_reducible show RD _ _ 28 _ _ _ _ _ _ _); first | ((with_reducible show RD _ _ _ _ _ _ _ (dm 8 0) _ _); refine RD.tk 0 (dm 8 192) (dm 8 1) (hK := ?_)) | ((with_reducible show RD _ _ _ _ _ _ _ (dm 8 1) _ _); refine RD.tk 1 (dm 8 192) (dm 8 3) (hK := ?_)) | ((with_reducible show RD _ _ _ _ _ _ _ (dm 8 3) _ _); refine RD.tk 2 (dm 8 208) (dm 8 7) (hK := ?_)) | ((with_reducible show RD _ _ _ _ _ _ _ (dm 8 7) _ _); refine RD.tk 3 (dm 8 208) (dm 8 15) (hK := ?_)) | ((with_reducible show RD _ _ _ _ _ _ _ (dm 8 15) _ _); refine RD.tk 5 (dm 8 192) (dm 8 47) (hK := ?_)) | ((with_reducible show RD _ _ _ _ _ _ _ (dm 8 47) _ _); refine RD.a1 4 ?_) | ((with_reducible show RD _ _ _ _ _ _ _ (dm 8 63) _ _); refine RD.a1 6 ?_) | ((with_reducible show RD _ _ _ _ _ _ _ (dm 8 127) _ _); refine RD.tk 7 (dm 8 0) (dm 8 255) (hK := ?_)) | ((with_reducible show RD _ _ _ _ _ _ 0 _ _ _); refine RD.done (by kernel_rfl) ?_)) | ((with_reducible show RO _ _ 28 _ _ _ _ _ _ _ _); first | ((with_reducible show RO _ _ _ _ _ _ _ (dm 8 47) 4 _ _); (refine RO.cL (dm 8 63) Try.call42 ?_; apply Exists.intro; apply And.intro; (focus ((repeat (first | exact LVs.nil | (apply LVs.sl; (with_reducible repeat (first | exact Has.head | apply Has.tail)); exact inferInstance; exact rfl))); done)); refine ⟨_, l8Choose_c (Ln.map Prod.fst) (lowd (i : Int) ((m : Int) + 1) os[op].1.toNat) (by exact hnm) (by omega), (by intro r H h; first | (obtain ⟨rfl, rfl⟩ := h; exact ⟨inferInstance, inferInstance⟩) | (obtain ⟨_, rfl, rfl⟩ := h; exact ⟨inferInstance, inferInstance⟩) | (obtain ⟨_, _, rfl, rfl⟩ := h; exact ⟨inferInstance, inferInstance⟩) | (obtain ⟨_, _, rfl, rfl, _⟩ := h; exact ⟨inferInstance, inferInstance⟩)), ?_⟩; rintro _ _ ⟨s142, rfl, rfl⟩; refine RD.nm ?_)) | ((with_reducible show RO _ _ _ _ _ _ _ (dm 8 63) 6 _ _); (refine RO.h (dm 8 127) ?_; show RH _ _ _ ⟨_, _, _, _, _, _⟩ _ _ _ _))) | ((with_reducible show RH _ _ _ ⟨_, .call ⟨.value (.func 41), _, _⟩, _, _, _, _⟩ _ _ _ _); refine RH.cL Try.call41 ?_; apply Exists.intro; apply And.intro; (focus ((repeat (first | exact LVs.nil | (apply LVs.sl; (with_reducible repeat (first | exact Has.head | apply Has.tail)); exact inferInstance; exact rfl) | apply LVs.refl)); done)); refine ⟨_, l1HasN_c (lowd (i : Int) ((m : Int) + 1) os[op].1.toNat) _ (by omega), (by intro r H h; first | (obtain ⟨rfl, rfl⟩ := h; exact ⟨inferInstance, inferInstance⟩) | (obtain ⟨_, rfl, rfl⟩ := h; exact ⟨inferInstance, inferInstance⟩) | (obtain ⟨_, _, rfl, rfl⟩ := h; exact ⟨inferInstance, inferInstance⟩) | (obtain ⟨_, _, rfl, rfl, _⟩ := h; exact ⟨inferInstance, inferInstance⟩)), ?_⟩; rintro _ _ ⟨rfl, rfl⟩; refine RL.nm ?_) | ((with_reducible show RH _ _ _ ⟨_, .call ⟨.value (.func 39), _, _⟩, _, _, _, _⟩ _ _ _ _); refine RH.cW Try.call39 ?_; refine ⟨_, _, _, (by repeat (first | exact Pick.nil | (apply Pick.cons; (with_reducible repeat (first | exact Rem.head | apply Rem.tail))))), applyN_c n os op hop (by omega) Ln (lowd (i : Int) ((m : Int) + 1) os[op].1.toNat) s142 k M hnum hMns hap, ?_⟩; rintro _ _ ⟨s144, rfl, rfl⟩; refine RL.nm ?_) | ((with_reducible show RH _ _ _ ⟨_, .call ⟨.value (.func 23), _, _⟩, _, _, _, _⟩ _ _ _ _); refine RH.cW Try.call23 ?_; refine ⟨_, _, _, (by repeat (first | exact Pick.nil | (apply Pick.cons; (with_reducible repeat (first | exact Rem.head | apply Rem.tail))))), findT_c O Ln so s144 (applyT n os[op].2 (chosen M (lowd (i : Int) ((m : Int) + 1) os[op].1.toNat)) k) k hOL hinv.str hOu htk (by omega) hk, ?_⟩; rintro _ _ ⟨rfl, rfl⟩; refine RL.nm ?_) | ((with_reducible show RH _ _ _ ⟨_, .call ⟨.value (.func 43), _, _⟩, _, _, _, _⟩ _ _ _ _); refine RH.cL Try.call43 ?_; apply Exists.intro; apply And.intro; (focus ((repeat (first | exact LVs.nil | (apply LVs.sl; (with_reducible repeat (first | exact Has.head | apply Has.tail)); exact inferInstance; exact rfl) | apply LVs.refl)); done)); refine ⟨_, l8Next_c (lowd (i : Int) ((m : Int) + 1) os[op].1.toNat) _ (by omega) (by omega) (by omega) (by exact fun x hx => (hnum x hx).1), (by intro r H h; first | (obtain ⟨rfl, rfl⟩ := h; exact ⟨inferInstance, inferInstance⟩) | (obtain ⟨_, rfl, rfl⟩ := h; exact ⟨inferInstance, inferInstance⟩) | (obtain ⟨_, _, rfl, rfl⟩ := h; exact ⟨inferInstance, inferInstance⟩) | (obtain ⟨_, _, rfl, rfl, _⟩ := h; exact ⟨inferInstance, inferInstance⟩)), ?_⟩; rintro _ _ ⟨s164, rfl, rfl⟩; refine RL.nm ?_) | ((with_reducible show RH _ _ _ _ _ _ _ _); refine RH.val (hK := ?_)) | (with_reducible show RL _ _ _ (_ :: _) _ _ _; refine RL.guardYes rfl rfl rfl rfl ?_) | (with_reducible first | refine Run.seq ?_ | refine Run.region ?_ | refine Run.block ?_ | refine Run.skip ?_ | refine Run.exit ?_) | (with_reducible show Run _ _ (.cond _ _ _) _ _ _; first | refine Run.condD rfl (fun h => ?_) (fun h => ?_) | refine Run.condND rfl (fun h => ?_) (fun h => ?_)) | (with_reducible first | refine seqN (K := Run _ _ _ _) ?_ | refine seqE ?_ | refine blockN ?_ | refine blockE ?_))
                  all_goals first
                    | (exfalso; omega)
                    | contradiction
                    | (with_reducible refine seqN ?_
                       exact ⟨(i + 1, _, s164, _, so, sl, Ln, O), ⟨hinv, hlen, hpre, hcov, fun _ => hnx, hmr', hL'⟩, by dsimp only; omega, Ent.of (by dsimp only; exact slA) (by dsimp only; exact chA)⟩)
                · repeat' (first | (with_reducible refine RL.done ?_) | (with_reducible refine RL.wanted ?_ ?_; exact rfl) | ((with_reducible show Run _ _ (.region 28 _ true) _ _ _); refine Run.regionD (fun i => i == 6) rfl ?_; change RD _ _ _ _ _ _ 8 (dm 8 0) _ _) | ((with_reducible show RD _ _ 28 _ _ _ _ _ _ _); first | ((with_reducible show RD _ _ _ _ _ _ _ (dm 8 0) _ _); refine RD.tk 0 (dm 8 192) (dm 8 1) (hK := ?_)) | ((with_reducible show RD _ _ _ _ _ _ _ (dm 8 1) _ _); refine RD.tk 1 (dm 8 192) (dm 8 3) (hK := ?_)) | ((with_reducible show RD _ _ _ _ _ _ _ (dm 8 3) _ _); refine RD.tk 2 (dm 8 208) (dm 8 7) (hK := ?_)) | ((with_reducible show RD _ _ _ _ _ _ _ (dm 8 7) _ _); refine RD.tk 3 (dm 8 208) (dm 8 15) (hK := ?_)) | ((with_reducible show RD _ _ _ _ _ _ _ (dm 8 15) _ _); refine RD.tk 5 (dm 8 192) (dm 8 47) (hK := ?_)) | ((with_reducible show RD _ _ _ _ _ _ _ (dm 8 47) _ _); refine RD.a1 4 ?_) | ((with_reducible show RD _ _ _ _ _ _ _ (dm 8 63) _ _); refine RD.a1 6 ?_) | ((with_reducible show RD _ _ _ _ _ _ _ (dm 8 127) _ _); refine RD.tk 7 (dm 8 0) (dm 8 255) (hK := ?_)) | ((with_reducible show RD _ _ _ _ _ _ 0 _ _ _); refine RD.done (by kernel_rfl) ?_)) | ((with_reducible show RO _ _ 28 _ _ _ _ _ _ _ _); first | ((with_reducible show RO _ _ _ _ _ _ _ (dm 8 47) 4 _ _); (refine RO.cL (dm 8 63) Try.call42 ?_; apply Exists.intro; apply And.intro; (focus ((repeat (first | exact LVs.nil | (apply LVs.sl; (with_reducible repeat (first | exact Has.head | apply Has.tail)); exact inferInstance; exact rfl))); done)); refine ⟨_, l8Choose_c (Ln.map Prod.fst) (lowd (i : Int) ((m : Int) + 1) os[op].1.toNat) (by exact hnm) (by omega), (by intro r H h; first | (obtain ⟨rfl, rfl⟩ := h; exact ⟨inferInstance, inferInstance⟩) | (obtain ⟨_, rfl, rfl⟩ := h; exact ⟨inferInstance, inferInstance⟩) | (obtain ⟨_, _, rfl, rfl⟩ := h; exact ⟨inferInstance, inferInstance⟩) | (obtain ⟨_, _, rfl, rfl, _⟩ := h; exact ⟨inferInstance, inferInstance⟩)), ?_⟩; rintro _ _ ⟨s142, rfl, rfl⟩; refine RD.nm ?_)) | ((with_reducible show RO _ _ _ _ _ _ _ (dm 8 63) 6 _ _); (refine RO.h (dm 8 127) ?_; show RH _ _ _ ⟨_, _, _, _, _, _⟩ _ _ _ _))) | ((with_reducible show RH _ _ _ ⟨some 158, .buildSlice _ _ _, _, _, _, _⟩ _ _ _ _); (refine RH.eff rfl rfl (EOpS.e (EOpS.slitV (by ((repeat (first | exact Elts.nil | apply Elts.one1 rfl | apply Elts.agg2 rfl)); done)) (by simp) rfl rfl)) ?_; rintro _ _ ⟨b158, rfl, rfl⟩)) | ((with_reducible show RH _ _ _ ⟨_, .call ⟨.value (.func 41), _, _⟩, _, _, _, _⟩ _ _ _ _); refine RH.cL Try.call41 ?_; apply Exists.intro; apply And.intro; (focus ((repeat (first | exact LVs.nil | (apply LVs.sl; (with_reducible repeat (first | exact Has.head | apply Has.tail)); exact inferInstance; exact rfl) | apply LVs.refl)); done)); refine ⟨_, l1HasN_c (lowd (i : Int) ((m : Int) + 1) os[op].1.toNat) _ (by omega), (by intro r H h; first | (obtain ⟨rfl, rfl⟩ := h; exact ⟨inferInstance, inferInstance⟩) | (obtain ⟨_, rfl, rfl⟩ := h; exact ⟨inferInstance, inferInstance⟩) | (obtain ⟨_, _, rfl, rfl⟩ := h; exact ⟨inferInstance, inferInstance⟩) | (obtain ⟨_, _, rfl, rfl, _⟩ := h; exact ⟨inferInstance, inferInstance⟩)), ?_⟩; rintro _ _ ⟨rfl, rfl⟩; refine RL.nm ?_) | ((with_reducible show RH _ _ _ ⟨_, .call ⟨.value (.func 39), _, _⟩, _, _, _, _⟩ _ _ _ _); refine RH.cW Try.call39 ?_; refine ⟨_, _, _, (by repeat (first | exact Pick.nil | (apply Pick.cons; (with_reducible repeat (first | exact Rem.head | apply Rem.tail))))), applyN_c n os op hop (by omega) Ln (lowd (i : Int) ((m : Int) + 1) os[op].1.toNat) s142 k M hnum hMns hap, ?_⟩; rintro _ _ ⟨s144, rfl, rfl⟩; refine RL.nm ?_) | ((with_reducible show RH _ _ _ ⟨_, .call ⟨.value (.func 23), _, _⟩, _, _, _, _⟩ _ _ _ _); refine RH.cW Try.call23 ?_; refine ⟨_, _, _, (by repeat (first | exact Pick.nil | (apply Pick.cons; (with_reducible repeat (first | exact Rem.head | apply Rem.tail))))), findT_c O Ln so s144 (applyT n os[op].2 (chosen M (lowd (i : Int) ((m : Int) + 1) os[op].1.toNat)) k) k hOL hinv.str hOu htk (by omega) hk, ?_⟩; rintro _ _ ⟨rfl, rfl⟩; refine RL.nm ?_) | ((with_reducible show RH _ _ _ ⟨_, .call ⟨.value (.func 40), _, _⟩, _, _, _, _⟩ _ _ _ _); refine RH.cW Try.call40 ?_; refine ⟨_, _, _, (by repeat (first | exact Pick.nil | (apply Pick.cons; (with_reducible repeat (first | exact Rem.head | apply Rem.tail))))), putR_c O Ln [(s144, applyT n os[op].2 (chosen M (lowd (i : Int) ((m : Int) + 1) os[op].1.toNat)) k)] so s144 (applyT n os[op].2 (chosen M (lowd (i : Int) ((m : Int) + 1) os[op].1.toNat)) k) k (hOa _) (.inr (by simp)) hinv.str hOu htk (by omega) hk hno, ?_⟩; rintro _ _ ⟨s155, rfl, rfl⟩; refine RL.nm ?_) | ((with_reducible show RH _ _ _ ⟨some 159, .call ⟨.builtin .append, _, _⟩, _, _, _, _⟩ _ _ _ _); (refine RH.appSv rfl rfl rfl (by repeat (first | exact Pick.nil | (apply Pick.cons; (with_reducible repeat (first | exact Rem.head | apply Rem.tail))))) (by first | omega | (simp; omega)) (by first | omega | (simp; omega)) ?_); rintro _ _ ⟨s159, rfl, rfl⟩) | ((with_reducible show RH _ _ _ ⟨_, .call ⟨.value (.func 43), _, _⟩, _, _, _, _⟩ _ _ _ _); refine RH.cL Try.call43 ?_; apply Exists.intro; apply And.intro; (focus ((repeat (first | exact LVs.nil | (apply LVs.sl; (with_reducible repeat (first | exact Has.head | apply Has.tail)); exact inferInstance; exact rfl) | apply LVs.refl)); done)); refine ⟨_, l8Next_c (lowd (i : Int) ((m : Int) + 1) os[op].1.toNat) _ (by omega) (by omega) (by omega) (by exact fun x hx => (hnum x hx).1), (by intro r H h; first | (obtain ⟨rfl, rfl⟩ := h; exact ⟨inferInstance, inferInstance⟩) | (obtain ⟨_, rfl, rfl⟩ := h; exact ⟨inferInstance, inferInstance⟩) | (obtain ⟨_, _, rfl, rfl⟩ := h; exact ⟨inferInstance, inferInstance⟩) | (obtain ⟨_, _, rfl, rfl, _⟩ := h; exact ⟨inferInstance, inferInstance⟩)), ?_⟩; rintro _ _ ⟨s164, rfl, rfl⟩; refine RL.nm ?_) | ((with_reducible show RH _ _ _ _ _ _ _ _); refine RH.val (hK := ?_)) | (with_reducible show RL _ _ _ (_ :: _) _ _ _; refine RL.guardYes rfl rfl rfl rfl ?_) | (with_reducible first | refine Run.seq ?_ | refine Run.region ?_ | refine Run.block ?_ | refine Run.skip ?_ | refine Run.exit ?_) | (with_reducible show Run _ _ (.cond _ _ _) _ _ _; first | refine Run.condD rfl (fun h => ?_) (fun h => ?_) | refine Run.condND rfl (fun h => ?_) (fun h => ?_)) | (with_reducible first | refine seqN (K := Run _ _ _ _) ?_ | refine seqE ?_ | refine blockN ?_ | refine blockE ?_))
                  all_goals first
                    | (exfalso; omega)
                    | contradiction
                    | (have hadd := hinv.add (w := s144) hcl hOu htk hno
                       have e1 := insO_fst O s144 (applyT n os[op].2 (chosen M (lowd (i : Int) ((m : Int) + 1) os[op].1.toNat)) k)
                       have e2 : (Ln ++ [(s144, (applyT n os[op].2 (chosen M (lowd (i : Int) ((m : Int) + 1) os[op].1.toNat)) k))]).map Prod.fst = Ln.map Prod.fst ++ [s144] := by rw [List.map_append]; rfl
                       have e3 : (Ln ++ [(s144, (applyT n os[op].2 (chosen M (lowd (i : Int) ((m : Int) + 1) os[op].1.toNat)) k))]).map Prod.snd = Ln.map Prod.snd ++ [(applyT n os[op].2 (chosen M (lowd (i : Int) ((m : Int) + 1) os[op].1.toNat)) k)] := by rw [List.map_append]; rfl
                       have hp2 : Ln.map Prod.snd <+: (Ln ++ [(s144, (applyT n os[op].2 (chosen M (lowd (i : Int) ((m : Int) + 1) os[op].1.toNat)) k))]).map Prod.snd := by rw [e3]; exact List.prefix_append _ _
                       have hnx := num_step (hnumc hsm) hp2 (fun _ => by rw [e3]; exact List.mem_append.2 (.inr (List.mem_singleton.2 rfl)))
                       with_reducible refine seqN ?_
                       exact ⟨(i + 1, _, s164, _, s155, s159, Ln ++ [(s144, (applyT n os[op].2 (chosen M (lowd (i : Int) ((m : Int) + 1) os[op].1.toNat)) k))], insO O s144 (applyT n os[op].2 (chosen M (lowd (i : Int) ((m : Int) + 1) os[op].1.toNat)) k)), ⟨hadd, by dsimp only; rw [List.length_append, List.length_singleton]; omega, hpre.trans hp2, fun _ f hf h0 => (hcov hsm f hf h0).mono hp2, fun _ => hnx, hmr', hL'⟩, by dsimp only; omega, ((SEnt.pick (B := [hrows Ln, hrows [(s144, (applyT n os[op].2 (chosen M (lowd (i : Int) ((m : Int) + 1) os[op].1.toNat)) k))]]) (by repeat (first | exact Pick.nil | (apply Pick.cons; (repeat (first | exact Rem.head | apply Rem.tail)))))).trans SEnt.catrows).ent.trans (Ent.of (by dsimp only; exact slA) (by dsimp only; rw [e1, e2]; exact (by repeat (first | exact Ch.nil | refine Ch.same (by repeat (first | exact Rem.head | apply Rem.tail)) ?_))))⟩)
              · have hnx := num_step (hnumc hsm) (List.prefix_refl _) (fun h => (hmm h).elim)
                repeat' (first | (with_reducible refine RL.done ?_) | (with_reducible refine RL.wanted ?_ ?_; exact rfl) | ((with_reducible show RH _ _ _ ⟨_, .call ⟨.value (.func 41), _, _⟩, _, _, _, _⟩ _ _ _ _); refine RH.cL Try.call41 ?_; apply Exists.intro; apply And.intro; (focus ((repeat (first | exact LVs.nil | (apply LVs.sl; (with_reducible repeat (first | exact Has.head | apply Has.tail)); exact inferInstance; exact rfl) | apply LVs.refl)); done)); refine ⟨_, l1HasN_c (lowd (i : Int) ((m : Int) + 1) os[op].1.toNat) _ (by omega), (by intro r H h; first | (obtain ⟨rfl, rfl⟩ := h; exact ⟨inferInstance, inferInstance⟩) | (obtain ⟨_, rfl, rfl⟩ := h; exact ⟨inferInstance, inferInstance⟩) | (obtain ⟨_, _, rfl, rfl⟩ := h; exact ⟨inferInstance, inferInstance⟩) | (obtain ⟨_, _, rfl, rfl, _⟩ := h; exact ⟨inferInstance, inferInstance⟩)), ?_⟩; rintro _ _ ⟨rfl, rfl⟩; refine RL.nm ?_) | ((with_reducible show RH _ _ _ ⟨_, .call ⟨.value (.func 43), _, _⟩, _, _, _, _⟩ _ _ _ _); refine RH.cL Try.call43 ?_; apply Exists.intro; apply And.intro; (focus ((repeat (first | exact LVs.nil | (apply LVs.sl; (with_reducible repeat (first | exact Has.head | apply Has.tail)); exact inferInstance; exact rfl) | apply LVs.refl)); done)); refine ⟨_, l8Next_c (lowd (i : Int) ((m : Int) + 1) os[op].1.toNat) _ (by omega) (by omega) (by omega) (by exact fun x hx => (hnum x hx).1), (by intro r H h; first | (obtain ⟨rfl, rfl⟩ := h; exact ⟨inferInstance, inferInstance⟩) | (obtain ⟨_, rfl, rfl⟩ := h; exact ⟨inferInstance, inferInstance⟩) | (obtain ⟨_, _, rfl, rfl⟩ := h; exact ⟨inferInstance, inferInstance⟩) | (obtain ⟨_, _, rfl, rfl, _⟩ := h; exact ⟨inferInstance, inferInstance⟩)), ?_⟩; rintro _ _ ⟨s164, rfl, rfl⟩; refine RL.nm ?_) | ((with_reducible show RH _ _ _ _ _ _ _ _); refine RH.val (hK := ?_)) | (with_reducible show RL _ _ _ (_ :: _) _ _ _; refine RL.guardYes rfl rfl rfl rfl ?_) | (with_reducible first | refine Run.seq ?_ | refine Run.region ?_ | refine Run.block ?_ | refine Run.skip ?_ | refine Run.exit ?_) | (with_reducible show Run _ _ (.cond _ _ _) _ _ _; refine Run.condD rfl (fun h => ?_) (fun h => ?_)) | (with_reducible first | refine seqN (K := Run _ _ _ _) ?_ | refine seqE ?_ | refine blockN ?_ | refine blockE ?_))
                all_goals first
                  | (exfalso; omega)
                  | contradiction
                  | (with_reducible refine seqN ?_
                     exact ⟨(i + 1, _, s164, _, so, sl, Ln, O), ⟨hinv, hlen, hpre, hcov, fun _ => hnx, hmr', hL'⟩, by dsimp only; omega, Ent.of (by dsimp only; exact slA) (by dsimp only; exact chA)⟩)
            · have hcv : Ln.length ≤ mostV os → ∀ f ∈ os.take (op + 1), 0 < f.1 → ValIn n k f M (Ln.map Prod.snd) := fun h f hf2 h0 => by
                rw [List.take_add_one, List.getElem?_eq_getElem hop, List.mem_append] at hf2
                rcases hf2 with hf2 | hf2
                · exact hcov h f hf2 h0
                · rw [Option.toList_some, List.mem_singleton] at hf2
                  subst hf2
                  have hmf : mr = false := by
                    cases mr with
                    | true => exact (hgoE ⟨rfl, h⟩).elim
                    | false => rfl
                  rw [hmf] at hmr
                  have h5 := of_decide_eq_false hmr.symm
                  exact num_all hMl (hnumc h) (fun h2 => h5 ⟨h0, h2⟩) (by rw [hMm]; exact (hall hgo2 _ hf h0).mono hpre)
              repeat' (first | (with_reducible refine RL.done ?_) | (with_reducible refine RL.wanted ?_ ?_; exact rfl) | ((with_reducible show RH _ _ _ _ _ _ _ _); refine RH.val (hK := ?_)) | (with_reducible show RL _ _ _ (_ :: _) _ _ _; first | refine RL.guardYes rfl rfl rfl rfl ?_ | refine RL.guardNoS rfl rfl rfl rfl rfl rfl ?_ | refine RL.split rfl rfl rfl (fun h => ?_) (fun h => ?_)) | (with_reducible first | refine Run.seq ?_ | refine Run.region ?_ | refine Run.block ?_ | refine Run.skip ?_ | refine Run.exit ?_) | (with_reducible show Run _ _ (.cond _ _ _) _ _ _; first | refine Run.condF rfl ?_ | refine Run.condD rfl (fun h => ?_) (fun h => ?_)) | (with_reducible first | refine seqN (K := Run _ _ _ _) ?_ | refine seqE ?_ | refine blockN ?_ | refine blockE ?_))
              all_goals first
                | (exfalso; omega)
                | (exfalso; exact hgoE ⟨by assumption, by omega⟩)
                | (with_reducible refine seqN ?_
                   exact ⟨(op + 1, so, sl, Ln, O), ⟨by dsimp only; omega, hinv, hlen, hpre, hcv⟩, by dsimp only; omega, Ent.of (by dsimp only; exact slA) (by dsimp only; exact chA)⟩)
          · subst h8
            rw [List.take_length] at hcov
            have hpl := hpre.length_le
            rw [List.length_map, List.length_map] at hpl
            repeat' (first | (with_reducible refine RL.done ?_) | (with_reducible refine RL.wanted ?_ ?_; exact rfl) | ((with_reducible show RH _ _ _ _ _ _ _ _); refine RH.val (hK := ?_)) | (with_reducible first | refine Run.seq ?_ | refine Run.region ?_ | refine Run.block ?_ | refine Run.skip ?_ | refine Run.exit ?_) | (with_reducible show Run _ _ (.cond _ _ _) _ _ _; refine Run.condD rfl (fun h => ?_) (fun h => ?_)) | (with_reducible first | refine seqN (K := Run _ _ _ _) ?_ | refine seqE ?_ | refine blockN ?_ | refine blockE ?_))
            all_goals first
              | (exfalso; omega)
              | (with_reducible refine seqN ?_
                 refine ⟨(m + 1, so, sl, Ln, O), ⟨by dsimp only; omega, hinv, hlen, fun t ht => hpre.subset (hFin t ht), fun h f hf h0 => ?_⟩, by dsimp only; omega, Ent.of (by dsimp only; exact slA) (by dsimp only; exact chA)⟩
                 have hc := hcov h f hf h0
                 have e : (Ln.map Prod.snd).take (m + 1) = M := by
                   obtain ⟨T, hT⟩ := hpre
                   rw [← hT, List.take_append_of_le_length (by rw [List.length_map]; omega), hMd]
                 dsimp only
                 rw [e]; exact hc)
        · have hLo := hinv.len
          have hyes : ClsYes n os k G (O.map Prod.snd) := ⟨hinv.str, fun t ht => hinv.clo t ((hinv.mem t).1 ht), fun h t ht => by
            rw [List.length_map] at h
            have h2 := hall (by omega)
            rw [List.take_of_length_le (by rw [List.length_map]; omega)] at h2
            exact (hinv.mem t).2 (cls_all (fun f hf => (hop0 f hf).1) hFin h2 ht)⟩
          repeat' (first | (with_reducible refine RL.done ?_) | (with_reducible refine RL.wanted ?_ ?_; exact rfl) | ((with_reducible show RH _ _ _ _ _ _ _ _); refine RH.val (hK := ?_)) | (with_reducible show RL _ _ _ (_ :: _) _ _ _; first | refine RL.guardYes rfl rfl rfl rfl ?_ | refine RL.guardNoS rfl rfl rfl rfl rfl rfl ?_ | refine RL.splitD rfl rfl rfl (fun h => ?_) (fun h => ?_)) | (with_reducible first | refine Run.seq ?_ | refine Run.region ?_ | refine Run.block ?_ | refine Run.skip ?_ | refine Run.exit ?_ | refine Run.ret ?_) | (with_reducible show Run _ _ (.cond _ _ _) _ _ _; first | refine Run.condF rfl ?_ | refine Run.condD rfl (fun h => ?_) (fun h => ?_)) | (with_reducible first | refine seqN (K := Run _ _ _ _) ?_ | refine seqE ?_ | refine blockE ?_))
          all_goals first
            | (exfalso; omega)
            | (refine ⟨eA, _, [hsl (tS tInt) (vsv so) (O.map Prod.snd)], resA, ?_, ?_⟩
               · exact (SEnt.pick (B := [hrows Ln0, hsl tSv (vsv so) (O.map Prod.fst)]) (by repeat (first | exact Pick.nil | (apply Pick.cons; (repeat (first | exact Rem.head | apply Rem.tail)))))).trans ((SEnt.permrows hinv.perm.symm).trans ((SEnt.pick (.cons (.tail .head) (.cons .head .nil))).trans (SEnt.packrows.trans (SEnt.ch (.cons .head rfl .nil)))))
               · have e9 : (O.map Prod.fst).length = (O.map Prod.snd).length := by rw [List.length_map, List.length_map]
                 exact ⟨O.map Prod.snd, so, by rw [e9]; rfl, rfl, hyes, by rw [List.length_map]; omega⟩)
end Go.Proofs.Ytemfpennomelaaa
