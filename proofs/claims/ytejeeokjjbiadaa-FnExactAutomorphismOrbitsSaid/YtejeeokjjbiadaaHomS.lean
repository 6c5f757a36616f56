/- The search for homomorphisms: impl.homSearch.fits, extend, searchHoms. Proved for this program; conditions: valid algebras of one type. -/
import Derived.Test.YtejeeokjjbiadaaHomI
namespace Go.Proofs.Ytejeeokjjbiadaa
open Go Go.Proofs
set_option linter.unusedVariables false

/-- what numbers stand in a list -/
def mkB (m : Nat) (l : List Int) : List Bool := (List.range m).map fun (x : Nat) => decide ((x : Int) ∈ l)
theorem mkB_length (m : Nat) (l : List Int) : (mkB m l).length = m := by simp [mkB]
theorem mkB_at {m : Nat} {l : List Int} {x : Nat} (h : x < (mkB m l).length) : (mkB m l)[x] = decide ((x : Int) ∈ l) := by simp [mkB]
theorem mkB_nil (m : Nat) : mkB m [] = List.replicate m false := by simp [mkB, List.map_const']
theorem mkB_set (m : Nat) (f : List Int) (j : Nat) (hj : j < f.length) (h0 : 0 ≤ f[j]) : (mkB m (f.take j)).set (f[j]).toNat true = mkB m (f.take (j + 1)) := by
  apply List.ext_getElem
  · simp [mkB]
  · intro i h1 h2
    rw [List.getElem_set]
    simp only [mkB, List.getElem_map, List.getElem_range, List.take_add_one, List.getElem?_eq_getElem hj, Option.toList_some, List.mem_append, List.mem_singleton]
    split
    · rename_i e; symm; rw [decide_eq_true_eq]; right; omega
    · rename_i e
      rw [Bool.eq_iff_iff]; simp only [decide_eq_true_eq]
      exact ⟨fun h => .inl h, fun h => h.resolve_right (by omega)⟩
theorem mkB_neg (m : Nat) (f : List Int) (j : Nat) (hj : j < f.length) (h0 : ¬ 0 ≤ f[j]) : mkB m (f.take (j + 1)) = mkB m (f.take j) := by
  simp only [mkB]
  apply List.map_congr_left
  intro i _
  rw [List.take_add_one, List.getElem?_eq_getElem hj, Bool.eq_iff_iff]
  simp only [decide_eq_true_eq, Option.toList_some, List.mem_append, List.mem_singleton]
  exact ⟨fun h => h.resolve_right (by omega), fun h => .inl h⟩
theorem range_all_no {p : Nat → Bool} {m j : Nat} (hj : j < m) (h : p j = false) : (List.range m).all p = false := by
  rw [List.all_eq_false]; exact ⟨j, List.mem_range.2 hj, by simp [h]⟩
theorem range_all_step {p : Nat → Bool} {j : Nat} (ht : (List.range j).all p = true) (h : p j = true) : (List.range (j + 1)).all p = true := by
  rw [List.range_succ, List.all_append, ht]; simp [h]
theorem intoAt_no {f : List Int} {j : Nat} (hj : j < f.length) (h0 : 0 ≤ f[j]) (h : f[j] ∈ f.take j) : intoAt f j = false := by
  rw [intoAt, getD_ho f j hj, decide_eq_true h0, decide_eq_true h]; rfl
theorem intoAt_yes {f : List Int} {j : Nat} (hj : j < f.length) (h : 0 ≤ f[j] → f[j] ∉ f.take j) : intoAt f j = true := by
  rw [intoAt, getD_ho f j hj]
  by_cases h0 : 0 ≤ f[j]
  · rw [decide_eq_false (h h0), Bool.and_false]; rfl
  · rw [decide_eq_false h0]; rfl
abbrev hscells (bs : Nat) (n n2 : Int) (os os2 : List (Int × List Int)) (into : Bool) (tries : Int) (fv : Value) : HP := hcells bs [vint n, vsl 2 (fun y : Int × (List Int) => [vint y.1, vsl 1 (fun x : Int => [vint x]) y.2]) os, vint n2, vsl 2 (fun y : Int × (List Int) => [vint y.1, vsl 1 (fun x : Int => [vint x]) y.2]) os2, vbool into, vint tries, vlit fv]
/-- two algebras that a search may take -/
structure HomOk (n n2 : Int) (os os2 : List (Int × List Int)) : Prop where
  prs : PrsOk n n2 (os.zip os2)
  len : os2.length = os.length
  four : os.length ≤ 4
  n1 : 1 ≤ n
  n8 : n ≤ 8
  m1 : 1 ≤ n2
  m8 : n2 ≤ 8
theorem opens_le (f : List Int) : opens f ≤ f.length := List.countP_le_length
theorem MapOk.few {n n2 : Int} {f : List Int} (h : MapOk n n2 f) : opens f < n.toNat + 1 := by
  have h1 := opens_le f
  have h2 := h.len
  omega
set_option maxRecDepth 10000 in
set_option maxHeartbeats 4000000 in
theorem fits_c (n : Int) (m2 : Nat) (os os2 : List (Int × List Int)) (into : Bool) (bs : Nat) (tries : Int) (fv : Value) [One (vlit fv)] (sf : Sv) (f : List Int) (hh : HomOk n m2 os os2) (hf : MapOk n m2 f) :
    Spec Try.prog 215 [vptr bs 0, vlit (vsv sf)] [hscells bs n m2 os os2 into tries fv, hsl tInt (vsv sf) f] (fun r S' => ∃ g, r = vbool (fitF n m2 (os.zip os2) into f).isSome ∧ S' = [hscells bs n m2 os os2 into tries fv, hsl tInt (vsv sf) g] ∧ ∀ g', fitF n m2 (os.zip os2) into f = some g' → g = g') := by
  have hC := closeMap_c n m2 os os2 sf f (n.toNat + 1) hh.prs hh.len hh.four hf hf.few
  have hfit : fitF n m2 (os.zip os2) into f = match clF n m2 (os.zip os2) (n.toNat + 1) f with
    | none => none
    | some g => if into && !intoB g then none else some g := rfl
  have hm1 := hh.m1
  have hm8 := hh.m8
  have hn8 := hh.n8
  refine Spec.of_run2 (n := 50) Try.func215 rfl Try.results215 Try.ntmps215 rfl ?_
  cases hO : clF n m2 (os.zip os2) (n.toNat + 1) f with
  | none =>
    rw [hO] at hfit hC
    simp only [] at hfit
    rw [hfit]
    repeat' (first | (with_reducible refine RL.done ?_) | (with_reducible refine RL.wanted ?_ ?_; exact rfl) | ((with_reducible show Run _ _ (.region 1 _ true) _ _ _); refine Run.regionD (fun i => i == 9) rfl ?_; change RD _ _ _ _ _ _ 11 (dm 11 0) _ _) | ((with_reducible show RD _ _ 1 _ _ _ _ _ _ _); first | ((with_reducible show RD _ _ _ _ _ _ _ (dm 11 0) _ _); refine RD.tk 0 (dm 11 1550) (dm 11 1) (hK := ?_)) | ((with_reducible show RD _ _ _ _ _ _ _ (dm 11 1) _ _); refine RD.tk 1 (dm 11 1548) (dm 11 3) (hK := ?_)) | ((with_reducible show RD _ _ _ _ _ _ _ (dm 11 3) _ _); refine RD.tk 2 (dm 11 1544) (dm 11 7) (hK := ?_)) | ((with_reducible show RD _ _ _ _ _ _ _ (dm 11 7) _ _); refine RD.tk 3 (dm 11 1536) (dm 11 15) (hK := ?_)) | ((with_reducible show RD _ _ _ _ _ _ _ (dm 11 15) _ _); refine RD.tk 4 (dm 11 1760) (dm 11 31) (hK := ?_)) | ((with_reducible show RD _ _ _ _ _ _ _ (dm 11 31) _ _); refine RD.tk 5 (dm 11 1728) (dm 11 63) (hK := ?_)) | ((with_reducible show RD _ _ _ _ _ _ _ (dm 11 63) _ _); refine RD.tk 6 (dm 11 1664) (dm 11 127) (hK := ?_)) | ((with_reducible show RD _ _ _ _ _ _ _ (dm 11 127) _ _); refine RD.tk 7 (dm 11 1536) (dm 11 255) (hK := ?_)) | ((with_reducible show RD _ _ _ _ _ _ _ (dm 11 255) _ _); refine RD.tk 8 (dm 11 1536) (dm 11 511) (hK := ?_)) | ((with_reducible show RD _ _ _ _ _ _ _ (dm 11 511) _ _); refine RD.a1 9 ?_) | ((with_reducible show RD _ _ _ _ _ _ _ (dm 11 1023) _ _); refine RD.tk 10 (dm 11 0) (dm 11 2047) (hK := ?_)) | ((with_reducible show RD _ _ _ _ _ _ 0 _ _ _); refine RD.done (by kernel_rfl) ?_)) | ((with_reducible show RO _ _ 1 _ _ _ _ _ _ _ _); ((with_reducible show RO _ _ _ _ _ _ _ (dm 11 511) 9 _ _); (refine RO.h (dm 11 1023) ?_; show RH _ _ _ ⟨_, _, _, _, _, _⟩ _ _ _ _))) | ((with_reducible show RH _ _ _ ⟨_, .call ⟨.value (.func 222), _, _⟩, _, _, _, _⟩ _ _ _ _); refine RH.cW Try.call222 ?_; refine ⟨_, _, _, (by repeat (first | exact Pick.nil | (apply Pick.cons; (with_reducible repeat (first | exact Rem.head | apply Rem.tail))))), hC, ?_⟩; rintro _ _ ⟨g1, rfl, rfl, hg1⟩; refine RL.nm ?_) | ((with_reducible show RH _ _ _ _ _ _ _ _); refine RH.val (hK := ?_)) | (with_reducible first | refine Run.seq ?_ | refine Run.region ?_ | refine Run.ret ?_) | (with_reducible show Run _ _ (.cond _ _ _) _ _ _; refine Run.condT rfl ?_) | (with_reducible first | refine seqN (K := Run _ _ _ _) ?_ | refine seqR ?_))
    all_goals first
      | (refine ⟨eA, _, [hscells bs n m2 os os2 into tries fv, hsl tInt (vsv sf) g1], resA, ?_, ?_⟩
         · exact SEnt.ch chA
         · exact ⟨g1, rfl, rfl, fun g' e => by cases e⟩)
  | some g =>
    have hg := (clF_ok hh.prs hf hO).1
    have hgl := hg.len
    rw [hO] at hfit hC
    simp only [] at hfit
    replace hC := hC.mono (R' := fun r S' => r = vbool true ∧ S' = [hsl tInt (vsv sf) g]) (fun r S' ⟨g', h1, h2, h3⟩ => ⟨h1, by rw [h2, h3 _ rfl]⟩)
    cases into with
    | false =>
      simp only [Bool.false_and, Bool.false_eq_true, if_false] at hfit
      rw [hfit]
      repeat' (first | (with_reducible refine RL.done ?_) | (with_reducible refine RL.wanted ?_ ?_; exact rfl) | ((with_reducible show Run _ _ (.region 1 _ true) _ _ _); refine Run.regionD (fun i => i == 9) rfl ?_; change RD _ _ _ _ _ _ 11 (dm 11 0) _ _) | ((with_reducible show RD _ _ 1 _ _ _ _ _ _ _); first | ((with_reducible show RD _ _ _ _ _ _ _ (dm 11 0) _ _); refine RD.tk 0 (dm 11 1550) (dm 11 1) (hK := ?_)) | ((with_reducible show RD _ _ _ _ _ _ _ (dm 11 1) _ _); refine RD.tk 1 (dm 11 1548) (dm 11 3) (hK := ?_)) | ((with_reducible show RD _ _ _ _ _ _ _ (dm 11 3) _ _); refine RD.tk 2 (dm 11 1544) (dm 11 7) (hK := ?_)) | ((with_reducible show RD _ _ _ _ _ _ _ (dm 11 7) _ _); refine RD.tk 3 (dm 11 1536) (dm 11 15) (hK := ?_)) | ((with_reducible show RD _ _ _ _ _ _ _ (dm 11 15) _ _); refine RD.tk 4 (dm 11 1760) (dm 11 31) (hK := ?_)) | ((with_reducible show RD _ _ _ _ _ _ _ (dm 11 31) _ _); refine RD.tk 5 (dm 11 1728) (dm 11 63) (hK := ?_)) | ((with_reducible show RD _ _ _ _ _ _ _ (dm 11 63) _ _); refine RD.tk 6 (dm 11 1664) (dm 11 127) (hK := ?_)) | ((with_reducible show RD _ _ _ _ _ _ _ (dm 11 127) _ _); refine RD.tk 7 (dm 11 1536) (dm 11 255) (hK := ?_)) | ((with_reducible show RD _ _ _ _ _ _ _ (dm 11 255) _ _); refine RD.tk 8 (dm 11 1536) (dm 11 511) (hK := ?_)) | ((with_reducible show RD _ _ _ _ _ _ _ (dm 11 511) _ _); refine RD.a1 9 ?_) | ((with_reducible show RD _ _ _ _ _ _ _ (dm 11 1023) _ _); refine RD.tk 10 (dm 11 0) (dm 11 2047) (hK := ?_)) | ((with_reducible show RD _ _ _ _ _ _ 0 _ _ _); refine RD.done (by kernel_rfl) ?_)) | ((with_reducible show RO _ _ 1 _ _ _ _ _ _ _ _); ((with_reducible show RO _ _ _ _ _ _ _ (dm 11 511) 9 _ _); (refine RO.h (dm 11 1023) ?_; show RH _ _ _ ⟨_, _, _, _, _, _⟩ _ _ _ _))) | ((with_reducible show RH _ _ _ ⟨_, .call ⟨.value (.func 222), _, _⟩, _, _, _, _⟩ _ _ _ _); refine RH.cW Try.call222 ?_; refine ⟨_, _, _, (by repeat (first | exact Pick.nil | (apply Pick.cons; (with_reducible repeat (first | exact Rem.head | apply Rem.tail))))), hC, ?_⟩; rintro _ _ ⟨rfl, rfl⟩; refine RL.nm ?_) | ((with_reducible show RH _ _ _ _ _ _ _ _); refine RH.val (hK := ?_)) | (with_reducible first | refine Run.seq ?_ | refine Run.region ?_ | refine Run.skip ?_ | refine Run.ret ?_) | (with_reducible show Run _ _ (.cond _ _ _) _ _ _; first | refine Run.condT rfl ?_ | refine Run.condF rfl ?_) | (with_reducible first | refine seqN (K := Run _ _ _ _) ?_ | refine seqR ?_))
      all_goals first
        | (refine ⟨eA, _, [hscells bs n m2 os os2 false tries fv, hsl tInt (vsv sf) g], resA, ?_, ?_⟩
           · exact SEnt.ch chA
           · exact ⟨g, rfl, rfl, fun g' e => by cases e; rfl⟩)
    | true =>
      rw [hfit]
      repeat' (first | (with_reducible refine RL.done ?_) | (with_reducible refine RL.wanted ?_ ?_; exact rfl) | ((with_reducible show Run _ _ (.region 1 _ true) _ _ _); refine Run.regionD (fun i => i == 9) rfl ?_; change RD _ _ _ _ _ _ 11 (dm 11 0) _ _) | ((with_reducible show RD _ _ 1 _ _ _ _ _ _ _); first | ((with_reducible show RD _ _ _ _ _ _ _ (dm 11 0) _ _); refine RD.tk 0 (dm 11 1550) (dm 11 1) (hK := ?_)) | ((with_reducible show RD _ _ _ _ _ _ _ (dm 11 1) _ _); refine RD.tk 1 (dm 11 1548) (dm 11 3) (hK := ?_)) | ((with_reducible show RD _ _ _ _ _ _ _ (dm 11 3) _ _); refine RD.tk 2 (dm 11 1544) (dm 11 7) (hK := ?_)) | ((with_reducible show RD _ _ _ _ _ _ _ (dm 11 7) _ _); refine RD.tk 3 (dm 11 1536) (dm 11 15) (hK := ?_)) | ((with_reducible show RD _ _ _ _ _ _ _ (dm 11 15) _ _); refine RD.tk 4 (dm 11 1760) (dm 11 31) (hK := ?_)) | ((with_reducible show RD _ _ _ _ _ _ _ (dm 11 31) _ _); refine RD.tk 5 (dm 11 1728) (dm 11 63) (hK := ?_)) | ((with_reducible show RD _ _ _ _ _ _ _ (dm 11 63) _ _); refine RD.tk 6 (dm 11 1664) (dm 11 127) (hK := ?_)) | ((with_reducible show RD _ _ _ _ _ _ _ (dm 11 127) _ _); refine RD.tk 7 (dm 11 1536) (dm 11 255) (hK := ?_)) | ((with_reducible show RD _ _ _ _ _ _ _ (dm 11 255) _ _); refine RD.tk 8 (dm 11 1536) (dm 11 511) (hK := ?_)) | ((with_reducible show RD _ _ _ _ _ _ _ (dm 11 511) _ _); refine RD.a1 9 ?_) | ((with_reducible show RD _ _ _ _ _ _ _ (dm 11 1023) _ _); refine RD.tk 10 (dm 11 0) (dm 11 2047) (hK := ?_)) | ((with_reducible show RD _ _ _ _ _ _ 0 _ _ _); refine RD.done (by kernel_rfl) ?_)) | ((with_reducible show RO _ _ 1 _ _ _ _ _ _ _ _); ((with_reducible show RO _ _ _ _ _ _ _ (dm 11 511) 9 _ _); (refine RO.h (dm 11 1023) ?_; show RH _ _ _ ⟨_, _, _, _, _, _⟩ _ _ _ _))) | ((with_reducible show RH _ _ _ ⟨some 29, .makeSlice _ _ _, _, _, _, _⟩ _ _ _ _); refine RH.make (α := Bool) rfl (fun x => [vbool x]) false (fun c => .cons rfl .nil) rfl rfl (by omega) (by omega) (by omega) ?_; rintro _ _ ⟨b29, rfl, rfl⟩) | ((with_reducible show RH _ _ _ ⟨_, .call ⟨.value (.func 222), _, _⟩, _, _, _, _⟩ _ _ _ _); refine RH.cW Try.call222 ?_; refine ⟨_, _, _, (by repeat (first | exact Pick.nil | (apply Pick.cons; (with_reducible repeat (first | exact Rem.head | apply Rem.tail))))), hC, ?_⟩; rintro _ _ ⟨rfl, rfl⟩; refine RL.nm ?_) | ((with_reducible show RH _ _ _ _ _ _ _ _); refine RH.val (hK := ?_)) | (with_reducible first | refine Run.seq ?_ | refine Run.region ?_ | refine Run.block ?_ | refine Run.skip ?_) | (with_reducible show Run _ _ (.cond _ _ _) _ _ _; refine Run.condF rfl ?_) | (with_reducible refine seqN (K := Run _ _ _ _) ?_))
      refine Run.loop (α := Nat) (fun j => [(0, vptr bs 0), (1, vlit (vsv sf)), (5, vsb b29 m2 m2), (30, vlit (vsv sf)), (31, vint (g.length : Int)), (32, vint (j : Int))]) (fun j => [harr b29 1 (fun x : Bool => [vbool x]) (mkB m2 (g.take j)) (m2 * 1), hscells bs n m2 os os2 true tries fv, hsl tInt (vsv sf) g]) (fun j => j ≤ g.length ∧ (List.range j).all (intoAt g) = true) (fun j => g.length - j) 0 (by simp) (Ent.of slA (.cons .head (by rw [List.take_zero, mkB_nil]) chA)) ?_
      rintro j ⟨hj, hall⟩
      have hml := mkB_length m2 (g.take j)
      rcases Nat.lt_or_eq_of_le hj with h9 | rfl
      · have hx := hg.at h9
        repeat' (first | (with_reducible refine RL.done ?_) | (with_reducible refine RL.wanted ?_ ?_; exact rfl) | ((with_reducible show RH _ _ _ _ _ _ _ _); first | refine RH.val (hK := ?_) | refine RH.upd (hK := ?_)) | (with_reducible show RL _ _ _ (_ :: _) _ _ _; first | refine RL.guardYes rfl rfl rfl rfl ?_ | refine RL.guardNoS rfl rfl rfl rfl rfl rfl ?_ | refine RL.splitD rfl rfl rfl (fun h => ?_) (fun h => ?_)) | (with_reducible first | refine Run.seq ?_ | refine Run.region ?_ | refine Run.block ?_ | refine Run.skip ?_ | refine Run.exit ?_ | refine Run.ret ?_) | (with_reducible show Run _ _ (.cond _ _ _) _ _ _; first | refine Run.condF rfl ?_ | refine Run.condD rfl (fun h => ?_) (fun h => ?_) | refine Run.cond rfl (fun h => ?_) (fun h => ?_)) | (with_reducible first | refine seqN (K := Run _ _ _ _) ?_ | refine seqE ?_ | refine seqR ?_ | refine blockN ?_ | refine blockR ?_ | refine blockE ?_))
        all_goals first
          | (exfalso; omega)
          | (have hno : intoB g = false := range_all_no h9 (intoAt_no h9 (by omega) (by
               have e := (by assumption : (mkB m2 (g.take j))[(g[j]).toNat]'(by omega) = true)
               rw [mkB_at, decide_eq_true_eq, Int.toNat_of_nonneg (by omega)] at e
               exact e))
             rw [hno]
             refine ⟨eA, _, [hscells bs n m2 os os2 true tries fv, hsl tInt (vsv sf) g], resA, ?_, ?_⟩
             · exact SEnt.ch chA
             · exact ⟨g, rfl, rfl, fun g' e => by cases e⟩)
          | (with_reducible refine seqN ?_
             exact ⟨j + 1, ⟨by omega, range_all_step hall (intoAt_yes h9 (fun h0 => by
               have e := (by assumption : (mkB m2 (g.take j))[(g[j]).toNat]'(by omega) = false)
               rw [mkB_at, decide_eq_false_iff_not, Int.toNat_of_nonneg h0] at e
               exact e))⟩, by omega, Ent.of slA (.cons .head (congrArg (fun ys => harr b29 1 (fun x : Bool => [vbool x]) ys (m2 * 1)) (mkB_set m2 g j h9 (by omega))) chA)⟩)
          | (with_reducible refine seqN ?_
             exact ⟨j + 1, ⟨by omega, range_all_step hall (intoAt_yes h9 (fun h0 => by omega))⟩, by omega, Ent.of slA (.cons .head (congrArg (fun ys => harr b29 1 (fun x : Bool => [vbool x]) ys (m2 * 1)) (mkB_neg m2 g j h9 (by omega)).symm) chA)⟩)
      · have hyes : intoB g = true := hall
        rw [hyes]
        repeat' (first | (with_reducible refine RL.done ?_) | (with_reducible refine RL.wanted ?_ ?_; exact rfl) | ((with_reducible show RH _ _ _ _ _ _ _ _); first | refine RH.val (hK := ?_) | refine RH.upd (hK := ?_)) | (with_reducible show RL _ _ _ (_ :: _) _ _ _; first | refine RL.guardYes rfl rfl rfl rfl ?_ | refine RL.guardNoS rfl rfl rfl rfl rfl rfl ?_ | refine RL.splitD rfl rfl rfl (fun h => ?_) (fun h => ?_)) | (with_reducible first | refine Run.seq ?_ | refine Run.region ?_ | refine Run.block ?_ | refine Run.skip ?_ | refine Run.exit ?_ | refine Run.ret ?_) | (with_reducible show Run _ _ (.cond _ _ _) _ _ _; first | refine Run.condF rfl ?_ | refine Run.condD rfl (fun h => ?_) (fun h => ?_) | refine Run.cond rfl (fun h => ?_) (fun h => ?_)) | (with_reducible first | refine seqN (K := Run _ _ _ _) ?_ | refine seqE ?_ | refine seqR ?_ | refine blockN ?_ | refine blockR ?_ | refine blockE ?_))
        all_goals first
          | (exfalso; omega)
          | (refine ⟨eA, _, [hscells bs n m2 os os2 true tries fv, hsl tInt (vsv sf) g], resA, ?_, ?_⟩
             · exact SEnt.ch chA
             · exact ⟨g, rfl, rfl, fun g' e => by cases e; rfl⟩)
theorem foldl_cons_range {σ : Type} (g : σ → Nat → σ) (s : σ) {y m : Nat} (h : y < m) : (List.range' y (m - y)).foldl g s = (List.range' (y + 1) (m - (y + 1))).foldl g (g s y) := by
  rw [show m - y = (m - (y + 1)) + 1 by omega, List.range'_succ, List.foldl_cons]
theorem foldl_end_range {σ : Type} (g : σ → Nat → σ) (s : σ) {y m : Nat} (h : m ≤ y) : (List.range' y (m - y)).foldl g s = s := by
  rw [show m - y = 0 by omega]; rfl
theorem okS_at {most : Nat} {s : SSt} (h : okS most s = true) : s.2.length < most ∧ s.1 ≤ 5000 := by simpa [okS] using h
theorem okS_up {most : Nat} {s : SSt} (h : okS most s = true) (h2 : ¬ 5000 < s.1 + 1) : okS most (s.1 + 1, s.2) = true := by
  have := okS_at h
  simp only [okS, decide_eq_true_eq]; exact ⟨this.1, by omega⟩
theorem okS_over {most : Nat} {s : SSt} (h2 : 5000 < s.1 + 1) : okS most (s.1 + 1, s.2) = false := by
  simp only [okS, decide_eq_false_iff_not]; rintro ⟨_, h⟩
  (try dsimp only at h); omega
theorem srS_over {go : List Int → SSt → SSt} {fit : List Int → Option (List Int)} {most : Nat} {f : List Int} {x : Nat} {s : SSt} {y : Nat} (h : okS most s = true) (h2 : 5000 < s.1 + 1) : srS go fit most f x s y = (s.1 + 1, s.2) := by
  rw [srS, h, if_pos rfl, if_pos h2]
theorem srS_none {go : List Int → SSt → SSt} {fit : List Int → Option (List Int)} {most : Nat} {f : List Int} {x : Nat} {s : SSt} {y : Nat} (h : okS most s = true) (h2 : ¬ 5000 < s.1 + 1) (h3 : fit (f.set x (y : Int)) = none) : srS go fit most f x s y = (s.1 + 1, s.2) := by
  rw [srS, h, if_pos rfl, if_neg h2, h3]
theorem srS_some {go : List Int → SSt → SSt} {fit : List Int → Option (List Int)} {most : Nat} {f : List Int} {x : Nat} {s : SSt} {y : Nat} {g : List Int} (h : okS most s = true) (h2 : ¬ 5000 < s.1 + 1) (h3 : fit (f.set x (y : Int)) = some g) : srS go fit most f x s y = go g (s.1 + 1, s.2) := by
  rw [srS, h, if_pos rfl, if_neg h2, h3]
theorem srF_full {fit : List Int → Option (List Int)} {good : List Int → Bool} {most n2 d : Nat} {f : List Int} {s : SSt} (h : openAt f = f.length) : srF fit good most n2 (d + 1) f s = (s.1, if good f then s.2 ++ [f] else s.2) := by
  rw [srF, if_pos h]
theorem srF_open {fit : List Int → Option (List Int)} {good : List Int → Bool} {most n2 d : Nat} {f : List Int} {s : SSt} (h : openAt f ≠ f.length) : srF fit good most n2 (d + 1) f s = (List.range' 0 (n2 - 0)).foldl (srS (srF fit good most n2 d) fit most f (openAt f)) s := by
  rw [srF, if_neg h, Nat.sub_zero]
/-- what a function that is told of each result does -/
abbrev FoundOk (fk : FuncId) (vs : List Value) (J : List (List Int) → HP) (good : List Int → Bool) (most : Nat) (n n2 : Int) : Prop :=
  ∀ (s : SSt) (sf : Sv) (f : List Int), okS most s = true → MapOk n n2 f → openAt f = f.length →
    Spec Try.prog fk ([vlit (vsv sf)] ++ vs.map vlit) [hsl tInt (vsv sf) f, J s.2] (fun r S' => r = vbool (okS most (s.1, if good f then s.2 ++ [f] else s.2)) ∧ S' = [hsl tInt (vsv sf) f, J (if good f then s.2 ++ [f] else s.2)])
set_option maxRecDepth 10000 in
set_option maxHeartbeats 8000000 in
theorem extend_c (n : Int) (m2 : Nat) (os os2 : List (Int × List Int)) (into : Bool) (bs : Nat) (hh : HomOk n m2 os os2) (fk : FuncId) (vs : List Value) (J : List (List Int) → HP) (good : List Int → Bool) (most : Nat) (hE : Enters Try.prog fk) (hfound : FoundOk fk vs J good most n m2) :
    ∀ (d : Nat) (f : List Int) (s : SSt) (sf : Sv), opens f < d → MapOk n m2 f → okS most s = true →
    Spec Try.prog 216 [vptr bs 0, vlit (vsv sf)] [hscells bs n m2 os os2 into s.1 (.func (.func fk) #[] vs.toArray), hsl tInt (vsv sf) f, J s.2]
      (fun r S' => r = vbool (okS most (srF (fitF n m2 (os.zip os2) into) good most m2 d f s)) ∧ S' = [hscells bs n m2 os os2 into (srF (fitF n m2 (os.zip os2) into) good most m2 d f s).1 (.func (.func fk) #[] vs.toArray), hsl tInt (vsv sf) f, J (srF (fitF n m2 (os.zip os2) into) good most m2 d f s).2])
  | 0, f, s, sf, hd, hf, hok => by omega
  | d + 1, f, s, sf, hd, hf, hok => by
    have ih := extend_c n m2 os os2 into bs hh fk vs J good most hE hfound d
    have hfl := hf.len
    have hn8 := hh.n8
    have hm8 := hh.m8
    by_cases hfull : openAt f = f.length
    · rw [srF_full hfull]
      have hpos := openAt_none hfull
      refine Spec.of_run2 (n := 67) Try.func216 rfl Try.results216 Try.ntmps216 rfl ?_
      repeat' (first | (with_reducible refine RL.done ?_) | (with_reducible refine RL.wanted ?_ ?_; exact rfl) | ((with_reducible show RH _ _ _ _ _ _ _ _); refine RH.val (hK := ?_)) | (with_reducible first | refine Run.seq ?_ | refine Run.region ?_ | refine Run.block ?_) | (with_reducible refine seqN (K := Run _ _ _ _) ?_))
      refine Run.loop (α := Nat) (fun j => [(0, vptr bs 0), (1, vlit (vsv sf)), (5, vint (j : Int))]) (fun j => [hscells bs n m2 os os2 into s.1 (.func (.func fk) #[] vs.toArray), hsl tInt (vsv sf) f, J s.2]) (fun j => j ≤ f.length) (fun j => f.length - j) 0 (by simp) (Ent.of slA chA) ?_
      intro j hj
      rcases Nat.lt_or_eq_of_le hj with h9 | rfl
      · have hx := hpos _ (List.getElem_mem h9)
        repeat' (first | (with_reducible refine RL.done ?_) | (with_reducible refine RL.wanted ?_ ?_; exact rfl) | ((with_reducible show RH _ _ _ _ _ _ _ _); refine RH.val (hK := ?_)) | (with_reducible show RL _ _ _ (_ :: _) _ _ _; first | refine RL.guardYes rfl rfl rfl rfl ?_ | refine RL.guardNoS rfl rfl rfl rfl rfl rfl ?_ | refine RL.splitD rfl rfl rfl (fun h => ?_) (fun h => ?_)) | (with_reducible first | refine Run.seq ?_ | refine Run.region ?_ | refine Run.block ?_ | refine Run.skip ?_ | refine Run.exit ?_) | (with_reducible show Run _ _ (.cond _ _ _) _ _ _; first | refine Run.condF rfl ?_ | refine Run.condD rfl (fun h => ?_) (fun h => ?_)) | (with_reducible first | refine seqN (K := Run _ _ _ _) ?_ | refine seqE ?_ | refine blockN ?_ | refine blockE ?_))
        all_goals first
          | (exfalso; omega)
          | (with_reducible refine seqN ?_
             exact ⟨j + 1, by omega, by omega, Ent.of slA chA⟩)
      · repeat' (first | (with_reducible refine RL.done ?_) | (with_reducible refine RL.wanted ?_ ?_; exact rfl) | ((with_reducible show RH _ _ _ ⟨_, .call ⟨.value (.tmp _), _, _⟩, _, _, _, _⟩ _ _ _ _); refine RH.cC hE ?_; refine ⟨_, _, _, .cons (.tail .head) (.cons (.tail .head) .nil), hfound s sf f hok hf hfull, ?_⟩; rintro _ _ ⟨rfl, rfl⟩; refine RL.nm ?_) | ((with_reducible show RH _ _ _ _ _ _ _ _); refine RH.val (hK := ?_)) | (with_reducible show RL _ _ _ (_ :: _) _ _ _; first | refine RL.guardYes rfl rfl rfl rfl ?_ | refine RL.guardNoS rfl rfl rfl rfl rfl rfl ?_ | refine RL.splitD rfl rfl rfl (fun h => ?_) (fun h => ?_)) | (with_reducible first | refine Run.seq ?_ | refine Run.region ?_ | refine Run.block ?_ | refine Run.skip ?_ | refine Run.exit ?_ | refine Run.ret ?_) | (with_reducible show Run _ _ (.cond _ _ _) _ _ _; first | refine Run.condF rfl ?_ | refine Run.condD rfl (fun h => ?_) (fun h => ?_)) | (with_reducible first | refine seqN (K := Run _ _ _ _) ?_ | refine seqE ?_ | refine seqR ?_ | refine blockN ?_ | refine blockE ?_))
        all_goals first
          | (exfalso; omega)
          | (refine ⟨eA, _, [hscells bs n m2 os os2 into s.1 (.func (.func fk) #[] vs.toArray), hsl tInt (vsv sf) f, J (if good f then s.2 ++ [f] else s.2)], resA, ?_, ?_⟩
             · exact SEnt.ch chA
             · exact ⟨rfl, rfl⟩)
    · obtain ⟨T, hT⟩ : ∃ T, srF (fitF n m2 (os.zip os2) into) good most m2 (d + 1) f s = T := ⟨_, rfl⟩
      rw [hT]
      rw [srF_open hfull] at hT
      obtain ⟨hx0, hneg⟩ := opens_at hfull
      refine Spec.of_run2 (n := 67) Try.func216 rfl Try.results216 Try.ntmps216 rfl ?_
      repeat' (first | (with_reducible refine RL.done ?_) | (with_reducible refine RL.wanted ?_ ?_; exact rfl) | ((with_reducible show RH _ _ _ _ _ _ _ _); refine RH.val (hK := ?_)) | (with_reducible first | refine Run.seq ?_ | refine Run.region ?_ | refine Run.block ?_) | (with_reducible refine seqN (K := Run _ _ _ _) ?_))
      refine Run.loop (α := Nat) (fun j => [(0, vptr bs 0), (1, vlit (vsv sf)), (5, vint (j : Int))]) (fun j => [hscells bs n m2 os os2 into s.1 (.func (.func fk) #[] vs.toArray), hsl tInt (vsv sf) f, J s.2]) (fun j => j ≤ openAt f) (fun j => openAt f - j) 0 (by simp) (Ent.of slA chA) ?_
      intro j hj
      rcases Nat.lt_or_eq_of_le hj with h9 | h9
      · obtain ⟨hjl, hjp⟩ := openAt_lt h9
        repeat' (first | (with_reducible refine RL.done ?_) | (with_reducible refine RL.wanted ?_ ?_; exact rfl) | ((with_reducible show RH _ _ _ _ _ _ _ _); refine RH.val (hK := ?_)) | (with_reducible show RL _ _ _ (_ :: _) _ _ _; first | refine RL.guardYes rfl rfl rfl rfl ?_ | refine RL.guardNoS rfl rfl rfl rfl rfl rfl ?_ | refine RL.splitD rfl rfl rfl (fun h => ?_) (fun h => ?_)) | (with_reducible first | refine Run.seq ?_ | refine Run.region ?_ | refine Run.block ?_ | refine Run.skip ?_ | refine Run.exit ?_) | (with_reducible show Run _ _ (.cond _ _ _) _ _ _; first | refine Run.condF rfl ?_ | refine Run.condD rfl (fun h => ?_) (fun h => ?_)) | (with_reducible first | refine seqN (K := Run _ _ _ _) ?_ | refine seqE ?_ | refine blockN ?_ | refine blockE ?_))
        all_goals first
          | (exfalso; omega)
          | (with_reducible refine seqN ?_
             exact ⟨j + 1, by omega, by omega, Ent.of slA chA⟩)
      · subst h9
        repeat' (first | (with_reducible refine RL.done ?_) | (with_reducible refine RL.wanted ?_ ?_; exact rfl) | ((with_reducible show RH _ _ _ _ _ _ _ _); refine RH.val (hK := ?_)) | (with_reducible show RL _ _ _ (_ :: _) _ _ _; first | refine RL.guardYes rfl rfl rfl rfl ?_ | refine RL.guardNoS rfl rfl rfl rfl rfl rfl ?_ | refine RL.splitD rfl rfl rfl (fun h => ?_) (fun h => ?_)) | (with_reducible first | refine Run.seq ?_ | refine Run.region ?_ | refine Run.block ?_ | refine Run.skip ?_ | refine Run.exit ?_) | (with_reducible show Run _ _ (.cond _ _ _) _ _ _; first | refine Run.condF rfl ?_ | refine Run.condD rfl (fun h => ?_) (fun h => ?_)) | (with_reducible first | refine seqN (K := Run _ _ _ _) ?_ | refine seqE ?_ | refine blockN ?_ | refine blockE ?_))
        all_goals first
          | (exfalso; omega)
          | skip
        refine Run.loop (α := Nat × SSt) (fun x => [(0, vptr bs 0), (1, vlit (vsv sf)), (5, vint (openAt f : Int)), (6, vint (x.1 : Int))]) (fun x => [hscells bs n m2 os os2 into x.2.1 (.func (.func fk) #[] vs.toArray), hsl tInt (vsv sf) f, J x.2.2])
          (fun x => x.1 ≤ m2 ∧ okS most x.2 = true ∧ (List.range' x.1 (m2 - x.1)).foldl (srS (srF (fitF n m2 (os.zip os2) into) good most m2 d) (fitF n m2 (os.zip os2) into) most f (openAt f)) x.2 = T) (fun x => m2 - x.1) (0, s) ⟨Nat.zero_le _, hok, hT⟩ (Ent.of slA chA) ?_
        rintro ⟨y, tr, fd⟩ ⟨hy, hk, hrun⟩
        (try dsimp only at hy hk hrun ⊢)
        have htr := (okS_at hk).2
        (try dsimp only at htr)
        have ecast : ((tr + 1 : Nat) : Int) = (tr : Int) + 1 := by omega
        rcases Nat.lt_or_eq_of_le hy with h8 | rfl
        · rw [foldl_cons_range _ _ h8] at hrun
          by_cases hov : 5000 < tr + 1
          · rw [srS_over hk hov, srS_stop (okS_over (s := (tr, fd)) hov)] at hrun
            subst hrun
            repeat' (first | (with_reducible refine RL.done ?_) | (with_reducible refine RL.wanted ?_ ?_; exact rfl) | ((with_reducible show RH _ _ _ _ _ _ _ _); first | refine RH.val (hK := ?_) | refine RH.upd (hK := ?_)) | (with_reducible first | refine Run.seq ?_ | refine Run.region ?_ | refine Run.block ?_ | refine Run.skip ?_ | refine Run.exit ?_ | refine Run.ret ?_) | (with_reducible show Run _ _ (.cond _ _ _) _ _ _; refine Run.condD rfl (fun h => ?_) (fun h => ?_)) | (with_reducible first | refine seqN (K := Run _ _ _ _) ?_ | refine seqE ?_ | refine seqR ?_ | refine blockR ?_ | refine blockE ?_))
            all_goals first
              | (exfalso; omega)
              | (refine ⟨eA, _, [hscells bs n m2 os os2 into ((tr : Int) + 1) (.func (.func fk) #[] vs.toArray), hsl tInt (vsv sf) f, J fd], resA, ?_, ?_⟩
                 · exact SEnt.ch chA
                 · exact ⟨by rw [okS_over (s := (tr, fd)) hov]; rfl, by (try dsimp only); rw [ecast]⟩)
          · have hok2 := okS_up hk hov
            (try dsimp only at hok2)
            have hmo : MapOk n m2 (f.set (openAt f) (y : Int)) := hf.set (by omega) (by omega)
            have hfits := fun (s53 : Sv) => fits_c n m2 os os2 into bs ((tr : Int) + 1) (.func (.func fk) #[] vs.toArray) s53 (f.set (openAt f) (y : Int)) hh hmo
            cases hfo : fitF n m2 (os.zip os2) into (f.set (openAt f) (y : Int)) with
            | none =>
              rw [srS_none hk hov hfo] at hrun
              rw [hfo] at hfits
              repeat' (first | (with_reducible refine RL.done ?_) | (with_reducible refine RL.wanted ?_ ?_; exact rfl) | ((with_reducible show RH _ _ _ ⟨_, .call ⟨.value (.func 93), _, _⟩, _, _, _, _⟩ _ _ _ _); refine RH.cL Try.call93 ?_; apply Exists.intro; apply And.intro; (focus ((repeat (first | exact LVs.nil | (apply LVs.sl; (with_reducible repeat (first | exact Has.head | apply Has.tail)); exact inferInstance; exact rfl))); done)); refine ⟨_, clone_c f (by omega), (by intro r H h; first | (obtain ⟨rfl, rfl⟩ := h; exact ⟨inferInstance, inferInstance⟩) | (obtain ⟨_, rfl, rfl⟩ := h; exact ⟨inferInstance, inferInstance⟩) | (obtain ⟨_, _, rfl, rfl⟩ := h; exact ⟨inferInstance, inferInstance⟩) | (obtain ⟨_, _, rfl, rfl, _⟩ := h; exact ⟨inferInstance, inferInstance⟩)), ?_⟩; rintro _ _ ⟨s53, rfl, rfl⟩; refine RL.nm ?_) | ((with_reducible show RH _ _ _ ⟨_, .call ⟨.value (.func 215), _, _⟩, _, _, _, _⟩ _ _ _ _); refine RH.cW Try.call215 ?_; refine ⟨_, _, _, (by repeat (first | exact Pick.nil | (apply Pick.cons; (with_reducible repeat (first | exact Rem.head | apply Rem.tail))))), hfits s53, ?_⟩; rintro _ _ ⟨g1, rfl, rfl, hg1⟩; refine RL.nm ?_) | ((with_reducible show RH _ _ _ _ _ _ _ _); first | refine RH.val (hK := ?_) | refine RH.upd (hK := ?_)) | (with_reducible show RL _ _ _ (_ :: _) _ _ _; refine RL.guardNoS rfl rfl rfl rfl rfl rfl ?_) | (with_reducible first | refine Run.seq ?_ | refine Run.region ?_ | refine Run.block ?_ | refine Run.skip ?_ | refine Run.exit ?_ | refine Run.ret ?_) | (with_reducible show Run _ _ (.cond _ _ _) _ _ _; first | refine Run.condF rfl ?_ | refine Run.condD rfl (fun h => ?_) (fun h => ?_)) | (with_reducible first | refine seqN (K := Run _ _ _ _) ?_ | refine seqE ?_ | refine seqR ?_ | refine blockN ?_ | refine blockR ?_ | refine blockE ?_))
              all_goals first
                | (exfalso; omega)
                | (with_reducible refine seqN ?_
                   exact ⟨(y + 1, tr + 1, fd), ⟨by (try dsimp only); omega, hok2, hrun⟩, by (try dsimp only); omega, Ent.of slA (by (try dsimp only); rw [ecast]; exact chA)⟩)
            | some g =>
              rw [srS_some hk hov hfo] at hrun
              rw [hfo] at hfits
              replace hfits := fun (s53 : Sv) => (hfits s53).mono (R' := fun r S' => r = vbool true ∧ S' = [hscells bs n m2 os os2 into ((tr : Int) + 1) (.func (.func fk) #[] vs.toArray), hsl tInt (vsv s53) g]) (fun r S' ⟨g', h1, h2, h3⟩ => ⟨h1, by rw [h2, h3 _ rfl]⟩)
              obtain ⟨hgo, hgl⟩ := fitF_ok hh.prs hmo hfo
              have hset := opens_set (v := openAt f) (w := (y : Int)) hx0 hneg (by omega)
              have hrec := fun (s53 : Sv) => ih g (tr + 1, fd) s53 (by omega) hgo hok2
              (try dsimp only at hrec hrun)
              rw [ecast] at hrec
              obtain ⟨T1, hT1⟩ : ∃ T1, srF (fitF n m2 (os.zip os2) into) good most m2 d g (tr + 1, fd) = T1 := ⟨_, rfl⟩
              rw [hT1] at hrec hrun
              cases hT1k : okS most T1 with
              | true =>
                rw [hT1k] at hrec
                repeat' (first | (with_reducible refine RL.done ?_) | (with_reducible refine RL.wanted ?_ ?_; exact rfl) | ((with_reducible show RH _ _ _ ⟨_, .call ⟨.value (.func 93), _, _⟩, _, _, _, _⟩ _ _ _ _); refine RH.cL Try.call93 ?_; apply Exists.intro; apply And.intro; (focus ((repeat (first | exact LVs.nil | (apply LVs.sl; (with_reducible repeat (first | exact Has.head | apply Has.tail)); exact inferInstance; exact rfl))); done)); refine ⟨_, clone_c f (by omega), (by intro r H h; first | (obtain ⟨rfl, rfl⟩ := h; exact ⟨inferInstance, inferInstance⟩) | (obtain ⟨_, rfl, rfl⟩ := h; exact ⟨inferInstance, inferInstance⟩) | (obtain ⟨_, _, rfl, rfl⟩ := h; exact ⟨inferInstance, inferInstance⟩) | (obtain ⟨_, _, rfl, rfl, _⟩ := h; exact ⟨inferInstance, inferInstance⟩)), ?_⟩; rintro _ _ ⟨s53, rfl, rfl⟩; refine RL.nm ?_) | ((with_reducible show RH _ _ _ ⟨_, .call ⟨.value (.func 215), _, _⟩, _, _, _, _⟩ _ _ _ _); refine RH.cW Try.call215 ?_; refine ⟨_, _, _, (by repeat (first | exact Pick.nil | (apply Pick.cons; (with_reducible repeat (first | exact Rem.head | apply Rem.tail))))), hfits s53, ?_⟩; rintro _ _ ⟨rfl, rfl⟩; refine RL.nm ?_) | ((with_reducible show RH _ _ _ ⟨_, .call ⟨.value (.func 216), _, _⟩, _, _, _, _⟩ _ _ _ _); refine RH.cW Try.call216 ?_; refine ⟨_, _, _, (by repeat (first | exact Pick.nil | (apply Pick.cons; (with_reducible repeat (first | exact Rem.head | apply Rem.tail))))), hrec s53, ?_⟩; rintro _ _ ⟨rfl, rfl⟩; refine RL.nm ?_) | ((with_reducible show RH _ _ _ _ _ _ _ _); first | refine RH.val (hK := ?_) | refine RH.upd (hK := ?_)) | (with_reducible show RL _ _ _ (_ :: _) _ _ _; refine RL.guardYes rfl rfl rfl rfl ?_) | (with_reducible first | refine Run.seq ?_ | refine Run.region ?_ | refine Run.block ?_ | refine Run.skip ?_ | refine Run.exit ?_ | refine Run.ret ?_) | (with_reducible show Run _ _ (.cond _ _ _) _ _ _; first | refine Run.condF rfl ?_ | refine Run.condD rfl (fun h => ?_) (fun h => ?_)) | (with_reducible first | refine seqN (K := Run _ _ _ _) ?_ | refine seqE ?_ | refine seqR ?_ | refine blockN ?_ | refine blockR ?_ | refine blockE ?_))
                all_goals first
                  | (exfalso; omega)
                  | (with_reducible refine seqN ?_
                     exact ⟨(y + 1, T1), ⟨by (try dsimp only); omega, hT1k, hrun⟩, by (try dsimp only); omega, Ent.of slA chA⟩)
              | false =>
                rw [hT1k] at hrec
                rw [srS_stop hT1k] at hrun
                subst hrun
                repeat' (first | (with_reducible refine RL.done ?_) | (with_reducible refine RL.wanted ?_ ?_; exact rfl) | ((with_reducible show RH _ _ _ ⟨_, .call ⟨.value (.func 93), _, _⟩, _, _, _, _⟩ _ _ _ _); refine RH.cL Try.call93 ?_; apply Exists.intro; apply And.intro; (focus ((repeat (first | exact LVs.nil | (apply LVs.sl; (with_reducible repeat (first | exact Has.head | apply Has.tail)); exact inferInstance; exact rfl))); done)); refine ⟨_, clone_c f (by omega), (by intro r H h; first | (obtain ⟨rfl, rfl⟩ := h; exact ⟨inferInstance, inferInstance⟩) | (obtain ⟨_, rfl, rfl⟩ := h; exact ⟨inferInstance, inferInstance⟩) | (obtain ⟨_, _, rfl, rfl⟩ := h; exact ⟨inferInstance, inferInstance⟩) | (obtain ⟨_, _, rfl, rfl, _⟩ := h; exact ⟨inferInstance, inferInstance⟩)), ?_⟩; rintro _ _ ⟨s53, rfl, rfl⟩; refine RL.nm ?_) | ((with_reducible show RH _ _ _ ⟨_, .call ⟨.value (.func 215), _, _⟩, _, _, _, _⟩ _ _ _ _); refine RH.cW Try.call215 ?_; refine ⟨_, _, _, (by repeat (first | exact Pick.nil | (apply Pick.cons; (with_reducible repeat (first | exact Rem.head | apply Rem.tail))))), hfits s53, ?_⟩; rintro _ _ ⟨rfl, rfl⟩; refine RL.nm ?_) | ((with_reducible show RH _ _ _ ⟨_, .call ⟨.value (.func 216), _, _⟩, _, _, _, _⟩ _ _ _ _); refine RH.cW Try.call216 ?_; refine ⟨_, _, _, (by repeat (first | exact Pick.nil | (apply Pick.cons; (with_reducible repeat (first | exact Rem.head | apply Rem.tail))))), hrec s53, ?_⟩; rintro _ _ ⟨rfl, rfl⟩; refine RL.nm ?_) | ((with_reducible show RH _ _ _ _ _ _ _ _); first | refine RH.val (hK := ?_) | refine RH.upd (hK := ?_)) | (with_reducible show RL _ _ _ (_ :: _) _ _ _; refine RL.guardYes rfl rfl rfl rfl ?_) | (with_reducible first | refine Run.seq ?_ | refine Run.region ?_ | refine Run.block ?_ | refine Run.skip ?_ | refine Run.exit ?_ | refine Run.ret ?_) | (with_reducible show Run _ _ (.cond _ _ _) _ _ _; first | refine Run.condT rfl ?_ | refine Run.condD rfl (fun h => ?_) (fun h => ?_)) | (with_reducible first | refine seqN (K := Run _ _ _ _) ?_ | refine seqE ?_ | refine seqR ?_ | refine blockR ?_ | refine blockE ?_))
                all_goals first
                  | (exfalso; omega)
                  | (refine ⟨eA, _, [hscells bs n m2 os os2 into T1.1 (.func (.func fk) #[] vs.toArray), hsl tInt (vsv sf) f, J T1.2], resA, ?_, ?_⟩
                     · exact SEnt.ch chA
                     · exact ⟨by rw [hT1k]; rfl, rfl⟩)
        · rw [foldl_end_range _ _ (Nat.le_refl _)] at hrun
          subst hrun
          repeat' (first | (with_reducible refine RL.done ?_) | (with_reducible refine RL.wanted ?_ ?_; exact rfl) | ((with_reducible show RH _ _ _ _ _ _ _ _); first | refine RH.val (hK := ?_) | refine RH.upd (hK := ?_)) | (with_reducible first | refine Run.seq ?_ | refine Run.region ?_ | refine Run.block ?_ | refine Run.skip ?_ | refine Run.exit ?_ | refine Run.ret ?_) | (with_reducible show Run _ _ (.cond _ _ _) _ _ _; refine Run.condD rfl (fun h => ?_) (fun h => ?_)) | (with_reducible first | refine seqN (K := Run _ _ _ _) ?_ | refine seqE ?_ | refine seqR ?_ | refine blockR ?_ | refine blockE ?_))
          all_goals first
            | (exfalso; omega)
            | (refine ⟨eA, _, [hscells bs n y os os2 into tr (.func (.func fk) #[] vs.toArray), hsl tInt (vsv sf) f, J fd], resA, ?_, ?_⟩
               · exact SEnt.ch chA
               · exact ⟨by rw [hk]; rfl, rfl⟩)
end Go.Proofs.Ytejeeokjjbiadaa
