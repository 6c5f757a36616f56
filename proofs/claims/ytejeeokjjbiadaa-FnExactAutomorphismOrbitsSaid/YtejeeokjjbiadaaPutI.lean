/- Numbers in order, each once: spec.l1Put. Proved for this program; conditions: a list in order. -/
import Derived.Test.YtejeeokjjbiadaaOwn
namespace Go.Proofs.Ytejeeokjjbiadaa
open Go Go.Proofs
set_option linter.unusedVariables false
def StrI (l : List Int) : Prop := l.Pairwise (· < ·)
def placeI (l : List Int) (n : Int) : Nat := (l.takeWhile fun x => decide (x < n)).length
def putI (l : List Int) (n : Int) : List Int := if n ∈ l then l else l.take (placeI l n) ++ n :: l.drop (placeI l n)
theorem placeI_eq {l : List Int} {n : Int} {j : Nat} (hj : j ≤ l.length) (h1 : ∀ i (hi : i < l.length), i < j → l[i] < n) (h2 : (h : j < l.length) → ¬ l[j] < n) : placeI l n = j := by
  induction l generalizing j with
  | nil => simp at hj; subst hj; rfl
  | cons x l ih =>
    cases j with
    | zero =>
      have := h2 (by simp)
      rw [placeI, List.takeWhile_cons, if_neg (by simpa using this)]; rfl
    | succ j =>
      have := h1 0 (by simp) (by omega)
      have h3 : placeI l n = j := ih (by simpa using hj) (fun i hi hij => h1 (i + 1) (by simpa using hi) (by omega)) (fun h => h2 (by simpa using h))
      rw [placeI, List.takeWhile_cons, if_pos (by simpa using this), List.length_cons, ← placeI, h3]
theorem strI_not {l : List Int} {n : Int} {j : Nat} (hs : StrI l) (h1 : ∀ i (hi : i < l.length), i < j → l[i] < n) (h2 : (h : j < l.length) → n < l[j]) : n ∉ l := fun h => by
  obtain ⟨i, hi, e⟩ := List.getElem_of_mem h
  rw [StrI, List.pairwise_iff_getElem] at hs
  rcases Nat.lt_or_ge i j with h3 | h3
  · have := h1 i hi h3; omega
  · have h4 := h2 (by omega)
    rcases Nat.lt_or_eq_of_le h3 with h5 | h5
    · have := hs j i (by omega) hi h5; omega
    · subst h5; omega
theorem putI_mem (l : List Int) (n u : Int) : u ∈ putI l n ↔ u = n ∨ u ∈ l := by
  rw [putI]
  split
  · rename_i h; exact ⟨.inr, fun k => k.elim (fun e => e ▸ h) id⟩
  · have h : u ∈ l ↔ u ∈ l.take (placeI l n) ∨ u ∈ l.drop (placeI l n) := by
      conv => lhs; rw [← List.take_append_drop (placeI l n) l]
      rw [List.mem_append]
    rw [h, List.mem_append, List.mem_cons]
    constructor
    · rintro (h | h | h)
      · exact .inr (.inl h)
      · exact .inl h
      · exact .inr (.inr h)
    · rintro (h | h | h)
      · exact .inr (.inl h)
      · exact .inl h
      · exact .inr (.inr h)
theorem place_split (l : List Int) (n : Int) : l.take (placeI l n) = l.takeWhile (fun x => decide (x < n)) ∧ l.drop (placeI l n) = l.dropWhile (fun x => decide (x < n)) := by
  have h := List.takeWhile_append_dropWhile (p := fun x => decide (x < n)) (l := l)
  generalize hm : placeI l n = m
  rw [placeI] at hm
  generalize List.takeWhile (fun x => decide (x < n)) l = x at h hm
  generalize List.dropWhile (fun x => decide (x < n)) l = y at h
  subst h; subst hm
  exact ⟨List.take_left' rfl, List.drop_left' rfl⟩
theorem takeI_lt {l : List Int} {n b : Int} (h : b ∈ l.takeWhile fun x => decide (x < n)) : b < n := by
  induction l with
  | nil => simp at h
  | cons x l ih =>
    rw [List.takeWhile_cons] at h
    split at h
    · rename_i hx
      rcases List.mem_cons.1 h with rfl | h
      · simpa using hx
      · exact ih h
    · cases h
theorem dropI_ge {l : List Int} {n b : Int} (hs : StrI l) (h : b ∈ l.dropWhile fun x => decide (x < n)) : n ≤ b := by
  induction l with
  | nil => simp at h
  | cons x l ih =>
    rw [StrI, List.pairwise_cons] at hs
    rw [List.dropWhile_cons] at h
    split at h
    · exact ih hs.2 h
    · rename_i hx
      have hx : ¬ x < n := by simpa using hx
      rcases List.mem_cons.1 h with rfl | h
      · omega
      · have := hs.1 b h; omega
theorem putI_str {l : List Int} {n : Int} (hl : StrI l) : StrI (putI l n) := by
  rw [putI]
  split
  · exact hl
  · rename_i hn
    obtain ⟨e1, e2⟩ := place_split l n
    have hl2 := hl
    rw [StrI, ← List.take_append_drop (placeI l n) l, List.pairwise_append] at hl2
    rw [StrI, List.pairwise_append]
    have h1 : ∀ b ∈ l.drop (placeI l n), n < b := fun b hb => by
      have hm : b ∈ l := List.mem_of_mem_drop hb
      rw [e2] at hb
      have h2 := dropI_ge hl hb
      have h3 : n ≠ b := fun e => hn (e ▸ hm)
      omega
    refine ⟨hl2.1, List.pairwise_cons.2 ⟨h1, hl2.2.1⟩, fun a ha b hb => ?_⟩
    rcases List.mem_cons.1 hb with rfl | hb
    · rw [e1] at ha; exact takeI_lt ha
    · exact hl2.2.2 a ha b hb
theorem strI_ext : ∀ {a b : List Int}, StrI a → StrI b → (∀ t, t ∈ a ↔ t ∈ b) → a = b
  | [], [], _, _, _ => rfl
  | [], y :: b, _, _, h => by have := (h y).2 (by simp); simp at this
  | x :: a, [], _, _, h => by have := (h x).1 (by simp); simp at this
  | x :: a, y :: b, ha, hb, h => by
    rw [StrI, List.pairwise_cons] at ha hb
    have hxy : x = y := by
      rcases List.mem_cons.1 ((h x).1 (by simp)) with e | e
      · exact e
      · rcases List.mem_cons.1 ((h y).2 (by simp)) with e2 | e2
        · exact e2.symm
        · have h1 := hb.1 x e; have h2 := ha.1 y e2; omega
    subst hxy
    refine congrArg _ (strI_ext ha.2 hb.2 fun t => ⟨fun ht => ?_, fun ht => ?_⟩)
    · rcases List.mem_cons.1 ((h t).1 (by simp [ht])) with e | e
      · subst e; have := ha.1 t ht; omega
      · exact e
    · rcases List.mem_cons.1 ((h t).2 (by simp [ht])) with e | e
      · subst e; have := hb.1 t ht; omega
      · exact e
/-- the set of numbers of a list, in order -/
def setI (ls : List Int) : List Int := ls.foldl putI []
theorem setI_fold : ∀ (ls l : List Int), StrI l → StrI (ls.foldl putI l) ∧ ∀ u, u ∈ ls.foldl putI l ↔ u ∈ l ∨ u ∈ ls
  | [], l, hl => ⟨hl, fun u => by simp⟩
  | t :: ls, l, hl => by
    obtain ⟨h2, h3⟩ := setI_fold ls (putI l t) (putI_str hl)
    refine ⟨h2, fun u => (h3 u).trans ?_⟩
    rw [putI_mem, List.mem_cons]
    constructor
    · rintro ((h | h) | h)
      · exact .inr (.inl h)
      · exact .inl h
      · exact .inr (.inr h)
    · rintro (h | h | h)
      · exact .inl (.inr h)
      · exact .inl (.inl h)
      · exact .inr h
theorem setI_str (ls : List Int) : StrI (setI ls) ∧ ∀ u, u ∈ setI ls ↔ u ∈ ls := by
  obtain ⟨h1, h2⟩ := setI_fold ls [] .nil
  exact ⟨h1, fun u => (h2 u).trans (by simp)⟩
theorem putI_le (l : List Int) (n : Int) : (putI l n).length ≤ l.length + 1 := by
  rw [putI]; split
  · omega
  · simp; omega
theorem setI_le : ∀ (ls l : List Int), (ls.foldl putI l).length ≤ l.length + ls.length
  | [], l => by simp
  | t :: ls, l => by
    have h1 := setI_le ls (putI l t)
    have h2 := putI_le l t
    simp only [List.foldl_cons, List.length_cons] at *; omega
theorem setI_snoc {ls : List Int} {m : Nat} (h : m < ls.length) : setI (ls.take (m + 1)) = putI (setI (ls.take m)) ls[m] := by
  rw [List.take_add_one, List.getElem?_eq_getElem h, setI, setI, List.foldl_append]; rfl
set_option maxRecDepth 10000 in
set_option maxHeartbeats 4000000 in
theorem l1Put_c (l : List Int) (n : Int) (s : Sv) (hs : StrI l) (hl : l.length ≤ 1048576) :
    Spec Try.prog 102 [vlit (vsv s), vint n] [hsl tInt (vsv s) l] (fun r S' => ∃ s' : Sv, r = vlit (vsv s') ∧ S' = [hsl tInt (vsv s') (putI l n)]) := by
  refine Spec.of_run2 (n := 45) Try.func102 rfl Try.results102 Try.ntmps102 rfl ?_
  repeat' (first | (with_reducible refine RL.done ?_) | (with_reducible refine RL.wanted ?_ ?_; exact rfl) | ((with_reducible show RH _ _ _ _ _ _ _ _); refine RH.val (hK := ?_)) | (with_reducible first | refine Run.seq ?_ | refine Run.region ?_ | refine Run.block ?_) | (with_reducible refine seqN (K := Run _ _ _ _) ?_))
  refine Run.loop (α := Nat) (fun j => [(0, vlit (vsv s)), (1, vint n), (5, vint (j : Int))]) (fun _ => [hsl tInt (vsv s) l]) (fun j => j ≤ l.length ∧ ∀ i (hi : i < l.length), i < j → l[i] < n) (fun j => l.length - j) 0 ⟨Nat.zero_le _, fun i _ h => by omega⟩ (Ent.of slA chA) ?_
  rintro j ⟨hj, hlow⟩
  (try dsimp only at hj hlow ⊢)
  by_cases hgo : ∃ h : j < l.length, l[j] < n
  · obtain ⟨h9, h8⟩ := hgo
    repeat' (first | (with_reducible refine RL.done ?_) | (with_reducible refine RL.wanted ?_ ?_; exact rfl) | ((with_reducible show RH _ _ _ _ _ _ _ _); refine RH.val (hK := ?_)) | (with_reducible show RL _ _ _ (_ :: _) _ _ _; first | refine RL.guardYes rfl rfl rfl rfl ?_ | refine RL.guardNoS rfl rfl rfl rfl rfl rfl ?_ | refine RL.splitD rfl rfl rfl (fun h => ?_) (fun h => ?_)) | (with_reducible first | refine Run.seq ?_ | refine Run.region ?_ | refine Run.block ?_ | refine Run.skip ?_ | refine Run.exit ?_ | refine Run.ret ?_) | (with_reducible show Run _ _ (.cond _ _ _) _ _ _; first | refine Run.condF rfl ?_ | refine Run.condD rfl (fun h => ?_) (fun h => ?_)) | (with_reducible first | refine seqN (K := Run _ _ _ _) ?_ | refine seqE ?_ | refine seqR ?_ | refine blockN ?_ | refine blockE ?_))
    all_goals first
      | (exfalso; omega)
      | (with_reducible refine seqN ?_
         refine ⟨j + 1, ⟨by omega, fun i hi hij => ?_⟩, by omega, Ent.of slA chA⟩
         rcases Nat.lt_or_eq_of_le (Nat.le_of_lt_succ hij) with h7 | h7
         · exact hlow i hi h7
         · subst h7; exact h8)
  · have hge : (h : j < l.length) → ¬ l[j] < n := fun h h2 => hgo ⟨h, h2⟩
    have hpl := placeI_eq hj hlow hge
    by_cases hin : ∃ h : j < l.length, l[j] = n
    · obtain ⟨h9, h8⟩ := hin
      have hm : n ∈ l := h8 ▸ List.getElem_mem h9
      rw [putI, if_pos hm]
      repeat' (first | (with_reducible refine RL.done ?_) | (with_reducible refine RL.wanted ?_ ?_; exact rfl) | ((with_reducible show RH _ _ _ _ _ _ _ _); refine RH.val (hK := ?_)) | (with_reducible show RL _ _ _ (_ :: _) _ _ _; first | refine RL.guardYes rfl rfl rfl rfl ?_ | refine RL.guardNoS rfl rfl rfl rfl rfl rfl ?_ | refine RL.splitD rfl rfl rfl (fun h => ?_) (fun h => ?_)) | (with_reducible first | refine Run.seq ?_ | refine Run.region ?_ | refine Run.block ?_ | refine Run.skip ?_ | refine Run.exit ?_ | refine Run.ret ?_) | (with_reducible show Run _ _ (.cond _ _ _) _ _ _; first | refine Run.condF rfl ?_ | refine Run.condD rfl (fun h => ?_) (fun h => ?_)) | (with_reducible first | refine seqN (K := Run _ _ _ _) ?_ | refine seqE ?_ | refine seqR ?_ | refine blockN ?_ | refine blockE ?_))
      all_goals first
        | (exfalso; omega)
        | (refine ⟨eA, _, [hsl tInt (vsv s) l], resA, ?_, ?_⟩
           · exact SEnt.ch chA
           · exact ⟨s, rfl, rfl⟩)
    · have hm : n ∉ l := strI_not hs hlow fun h => by
        have h1 := hge h
        have h2 : l[j] ≠ n := fun e => hin ⟨h, e⟩
        omega
      rw [putI, if_neg hm, hpl]
      repeat' (first | (with_reducible refine RL.done ?_) | (with_reducible refine RL.wanted ?_ ?_; exact rfl) | ((with_reducible show RH _ _ _ _ _ _ _ _); refine RH.val (hK := ?_)) | (with_reducible show RL _ _ _ (_ :: _) _ _ _; first | refine RL.guardYes rfl rfl rfl rfl ?_ | refine RL.guardNoS rfl rfl rfl rfl rfl rfl ?_ | refine RL.splitD rfl rfl rfl (fun h => ?_) (fun h => ?_)) | (with_reducible first | refine Run.seq ?_ | refine Run.region ?_ | refine Run.block ?_ | refine Run.skip ?_ | refine Run.exit ?_ | refine Run.ret ?_) | (with_reducible show Run _ _ (.cond _ _ _) _ _ _; first | refine Run.condF rfl ?_ | refine Run.condD rfl (fun h => ?_) (fun h => ?_)) | (with_reducible first | refine seqN (K := Run _ _ _ _) ?_ | refine seqE ?_ | refine seqR ?_ | refine blockN ?_ | refine blockE ?_))
      all_goals first
        | (exfalso; omega)
        | (exfalso; exact hge (by omega) (by assumption))
        | (exfalso; exact hin ⟨by omega, by assumption⟩)
        | skip
      all_goals
        refine Run.toFz (t := tInt) .head ?_
        change Run _ _ _ _ _ (hfz 1 (fun x : Int => [vint x]) s l :: _)
        repeat' (first | (with_reducible refine RL.done ?_) | ((with_reducible show Run _ _ (.region 6 _ true) _ _ _); refine Run.regionD (fun i => i == 4 || i == 7 || i == 11) rfl ?_; change RD _ _ _ _ _ _ 13 (dm 13 0) _ _) | ((with_reducible show RD _ _ 6 _ _ _ _ _ _ _); first | ((with_reducible show RD _ _ _ _ _ _ _ (dm 13 0) _ _); refine RD.tk 1 (dm 13 6296) (dm 13 2) (hK := ?_)) | ((with_reducible show RD _ _ _ _ _ _ _ (dm 13 2) _ _); refine RD.tk 2 (dm 13 6296) (dm 13 6) (hK := ?_)) | ((with_reducible show RD _ _ _ _ _ _ _ (dm 13 6) _ _); refine RD.tk 3 (dm 13 6288) (dm 13 14) (hK := ?_)) | ((with_reducible show RD _ _ _ _ _ _ _ (dm 13 14) _ _); refine RD.mv 5 (dm 13 6336) (dm 13 46) (hK := ?_)) | ((with_reducible show RD _ _ _ _ _ _ _ (dm 13 46) _ _); refine RD.mv 8 (dm 13 7168) (dm 13 302) (hK := ?_)) | ((with_reducible show RD _ _ _ _ _ _ _ (dm 13 302) _ _); refine RD.mv 9 (dm 13 7168) (dm 13 814) (hK := ?_)) | ((with_reducible show RD _ _ _ _ _ _ _ (dm 13 814) _ _); refine RD.mvLo 10 (dm 13 6144) (dm 13 1838) rfl (by kernel_rfl) rfl (by kernel_rfl) (by kernel_rfl) rfl (by with_reducible repeat (first | exact Has.head | apply Has.tail)) rfl (by first | omega | (simp; omega)) ?_) | ((with_reducible show RD _ _ _ _ _ _ _ (dm 13 1838) _ _); refine RD.a2 0 6 ?_ ?_) | ((with_reducible show RD _ _ _ _ _ _ _ (dm 13 1839) _ _); refine RD.a2 4 6 ?_ ?_) | ((with_reducible show RD _ _ _ _ _ _ _ (dm 13 1902) _ _); refine RD.a1 0 ?_) | ((with_reducible show RD _ _ _ _ _ _ _ (dm 13 1855) _ _); refine RD.a1 6 ?_) | ((with_reducible show RD _ _ _ _ _ _ _ (dm 13 1903) _ _); refine RD.a1 4 ?_) | ((with_reducible show RD _ _ _ _ _ _ _ (dm 13 1919) _ _); refine RD.a1 7 ?_) | ((with_reducible show RD _ _ _ _ _ _ _ (dm 13 2047) _ _); refine RD.a1 11 ?_) | ((with_reducible show RD _ _ _ _ _ _ _ (dm 13 4095) _ _); refine RD.tk 12 (dm 13 0) (dm 13 8191) (hK := ?_)) | ((with_reducible show RD _ _ _ _ _ _ 0 _ _ _); refine RD.done (by kernel_rfl) ?_)) | ((with_reducible show RO _ _ 6 _ _ _ _ _ _ _ _); first | ((with_reducible show RO _ _ _ _ _ _ _ (dm 13 1838) 0 _ _); (refine RO.eS (dm 13 1839) (hv := by show EOpS _ _ _ _ ⟨_, .buildSlice _ _ _, _, _, _, _⟩ _; exact EOpS.slit (fun x : Int => [vint x]) _ (fun _ _ => rfl) (by repeat (first | exact Elts.nil | (apply Elts.cons; exact rfl; exact CellsOf.one))) rfl rfl) (h := ?_); rintro _ _ ⟨b33, rfl, rfl⟩)) | ((with_reducible show RO _ _ _ _ _ _ _ (dm 13 1838) 6 _ _); (refine RO.eS (dm 13 1902) (hv := by show EOpS _ _ _ _ ⟨_, .buildSlice _ _ _, _, _, _, _⟩ _; exact EOpS.slit (fun x : Int => [vint x]) _ (fun _ _ => rfl) (by repeat (first | exact Elts.nil | (apply Elts.cons; exact rfl; exact CellsOf.one))) rfl rfl) (h := ?_); rintro _ _ ⟨b39, rfl, rfl⟩)) | ((with_reducible show RO _ _ _ _ _ _ _ (dm 13 1839) 4 _ _); (refine RO.h (dm 13 1855) ?_; show RH _ _ _ ⟨_, _, _, _, _, _⟩ _ _ _ _)) | ((with_reducible show RO _ _ _ _ _ _ _ (dm 13 1839) 6 _ _); (refine RO.eS (dm 13 1903) (hv := by show EOpS _ _ _ _ ⟨_, .buildSlice _ _ _, _, _, _, _⟩ _; exact EOpS.slit (fun x : Int => [vint x]) _ (fun _ _ => rfl) (by repeat (first | exact Elts.nil | (apply Elts.cons; exact rfl; exact CellsOf.one))) rfl rfl) (h := ?_); rintro _ _ ⟨b39, rfl, rfl⟩)) | ((with_reducible show RO _ _ _ _ _ _ _ (dm 13 1902) 0 _ _); (refine RO.eS (dm 13 1903) (hv := by show EOpS _ _ _ _ ⟨_, .buildSlice _ _ _, _, _, _, _⟩ _; exact EOpS.slit (fun x : Int => [vint x]) _ (fun _ _ => rfl) (by repeat (first | exact Elts.nil | (apply Elts.cons; exact rfl; exact CellsOf.one))) rfl rfl) (h := ?_); rintro _ _ ⟨b33, rfl, rfl⟩)) | ((with_reducible show RO _ _ _ _ _ _ _ (dm 13 1855) 6 _ _); (refine RO.eS (dm 13 1919) (hv := by show EOpS _ _ _ _ ⟨_, .buildSlice _ _ _, _, _, _, _⟩ _; exact EOpS.slit (fun x : Int => [vint x]) _ (fun _ _ => rfl) (by repeat (first | exact Elts.nil | (apply Elts.cons; exact rfl; exact CellsOf.one))) rfl rfl) (h := ?_); rintro _ _ ⟨b39, rfl, rfl⟩)) | ((with_reducible show RO _ _ _ _ _ _ _ (dm 13 1903) 4 _ _); (refine RO.h (dm 13 1919) ?_; show RH _ _ _ ⟨_, _, _, _, _, _⟩ _ _ _ _)) | ((with_reducible show RO _ _ _ _ _ _ _ (dm 13 1919) 7 _ _); (refine RO.h (dm 13 2047) ?_; show RH _ _ _ ⟨_, _, _, _, _, _⟩ _ _ _ _)) | ((with_reducible show RO _ _ _ _ _ _ _ (dm 13 2047) 11 _ _); (refine RO.h (dm 13 4095) ?_; show RH _ _ _ ⟨_, _, _, _, _, _⟩ _ _ _ _))) | ((with_reducible show RH _ _ _ ⟨_, .call ⟨.builtin .append, _, _⟩, _, _, _, _⟩ _ _ _ _); refine RH.appV rfl rfl rfl (by with_reducible repeat (first | exact Plc.head | apply Plc.tail)) (by first | exact rfl | (simp; done)) (by decide) (by first | omega | (simp; omega)) (by first | omega | (simp; omega)) ?_; rintro _ _ ⟨b9, c9, rfl, rfl⟩) | ((with_reducible show RH _ _ _ ⟨_, .call ⟨.builtin .append, _, _⟩, _, _, _, _⟩ _ _ _ _); refine RH.appOO rfl rfl rfl (by with_reducible repeat (first | exact Has.head | apply Has.tail)) (by with_reducible repeat (first | exact Plc.head | apply Plc.tail)) (by first | exact rfl | (simp; done)) rfl (by first | omega | (simp; omega)) (by first | omega | (simp; omega)) ?_; rintro _ _ ⟨b9, c9, rfl, rfl⟩) | (with_reducible refine Run.ret ?_) | (with_reducible refine seqN (K := Run _ _ _ _) ?_))
        all_goals
          refine ⟨eA, _, [hsl tInt (vsv (some ⟨b9, 0, none⟩, ([] ++ l.take j ++ [n]).length + (l.drop j).length, c9)) (l.take j ++ n :: l.drop j)], resA, ?_, ?_⟩
          · refine (SEnt.ch (T := [harr b9 1 (fun x : Int => [vint x]) ([] ++ l.take j ++ [n] ++ l.drop j) (c9 * 1)]) (.cons (by repeat (first | exact Rem.head | apply Rem.tail)) rfl .nil)).trans ?_
            refine (SEnt.pack (rv := fun x : Int => .int .i64 x) (fun _ => rfl) List.length_append.symm).trans ?_
            exact SEnt.ch (.cons .head (by rw [List.nil_append, List.append_assoc, List.singleton_append]; rfl) .nil)
          · exact ⟨(some ⟨b9, 0, none⟩, _, c9), rfl, rfl⟩
end Go.Proofs.Ytejeeokjjbiadaa
