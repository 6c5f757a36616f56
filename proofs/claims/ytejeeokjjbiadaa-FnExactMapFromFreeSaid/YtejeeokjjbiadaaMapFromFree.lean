/- laws.FnExactMapFromFree answers true. Proved for this program; no conditions. -/
import Derived.Test.YtejeeokjjbiadaaFreeV
import Derived.Test.YtejeeokjjbiadaaFreeSm
namespace Go.Proofs.Ytejeeokjjbiadaa
open Go Go.Proofs
set_option linter.unusedVariables false
def mapTo (X : List (List Int)) (p : Nat) : List Int := X.map fun t => t.getD p 0
theorem mapTo_take {X : List (List Int)} {p m : Nat} (h : m < X.length) (hp : p < X[m].length) : mapTo (X.take (m + 1)) p = mapTo (X.take m) p ++ [X[m][p]] := by
  rw [mapTo, List.take_add_one, List.getElem?_eq_getElem h, List.map_append, Option.toList_some, List.map_singleton, List.getD_eq_getElem?_getD, List.getElem?_eq_getElem hp]; rfl
def fmapV (n k : Int) (im : List Int) (o : Option (List (List Int))) : Option (List Int) := match o with
  | none => none
  | some X => if (im.length : Int) = k ∧ elB n im = true then some (mapTo X (hor n im).toNat) else none
abbrev LnRes (o : Option (List Int)) (r : VP) (S' : List HP) : Prop := ∃ s : Sv, r = vtup [vlit (vsv s), vbool o.isSome] ∧ S' = [hsl tInt (vsv s) (o.getD [])]
set_option maxRecDepth 10000 in
theorem l11Place_c (n : Int) (l : List Int) (h1 : 1 ≤ n) (h8 : n ≤ 8) (hl : l.length ≤ 3) (he : elB n l = true) :
    Spec Try.prog 99 [vint n, vsl 1 (fun x : Int => [vint x]) l] [] (fun r S' => r = vint (hor n l) ∧ S' = []) := by
  have hall := he
  rw [elB, List.all_eq_true] at hall
  refine Spec.of_run2 (n := 22) Try.func99 rfl Try.results99 Try.ntmps99 rfl ?_
  repeat' (first | (with_reducible refine RL.done ?_) | (with_reducible refine RL.wanted ?_ ?_; exact rfl) | ((with_reducible show RH _ _ _ _ _ _ _ _); refine RH.val (hK := ?_)) | (with_reducible first | refine Run.seq ?_ | refine Run.region ?_ | refine Run.block ?_) | (with_reducible refine seqN (K := Run _ _ _ _) ?_))
  refine Run.loop (α := Nat) (fun j => [(0, vint n), (1, vsl 1 (fun x : Int => [vint x]) l), (5, vint (hor n (l.take j))), (6, vint (j : Int))]) (fun _ => []) (fun j => j ≤ l.length) (fun j => l.length - j) 0 (by simp) (Ent.of slA .refl) ?_
  intro j hj
  obtain ⟨hb1, hb2⟩ := hor_bound n (by omega) l he j hj
  have hb3 := pw_512' n h1 h8 j (by omega)
  have hb4 : 0 ≤ hor n (l.take j) * n := Int.mul_nonneg hb1 (by omega)
  have hb5 : hor n (l.take j) * n ≤ 512 * 8 := Int.mul_le_mul (by omega) h8 (by omega) (by decide)
  rcases Nat.lt_or_eq_of_le hj with h9 | rfl
  · have hx := hall _ (List.getElem_mem h9)
    simp only [decide_eq_true_eq] at hx
    have hs := hor_succ n l j h9
    repeat' (first | (with_reducible refine RL.done ?_) | (with_reducible refine RL.wanted ?_ ?_; exact rfl) | ((with_reducible show RH _ _ _ _ _ _ _ _); refine RH.val (hK := ?_)) | (with_reducible first | refine Run.seq ?_ | refine Run.region ?_ | refine Run.block ?_ | refine Run.skip ?_ | refine Run.exit ?_ | refine Run.ret ?_) | (with_reducible show Run _ _ (.cond _ _ _) _ _ _; refine Run.condD rfl (fun h => ?_) (fun h => ?_)) | (with_reducible first | refine seqN (K := Run _ _ _ _) ?_ | refine seqE ?_ | refine blockN ?_ | refine blockE ?_))
    all_goals first
      | (exfalso; omega)
      | (with_reducible refine seqN ?_
         exact ⟨j + 1, by omega, by omega, Ent.of slA .refl⟩)
  · repeat' (first | (with_reducible refine RL.done ?_) | (with_reducible refine RL.wanted ?_ ?_; exact rfl) | ((with_reducible show RH _ _ _ _ _ _ _ _); refine RH.val (hK := ?_)) | (with_reducible first | refine Run.seq ?_ | refine Run.region ?_ | refine Run.block ?_ | refine Run.skip ?_ | refine Run.exit ?_ | refine Run.ret ?_) | (with_reducible show Run _ _ (.cond _ _ _) _ _ _; refine Run.condD rfl (fun h => ?_) (fun h => ?_)) | (with_reducible first | refine seqN (K := Run _ _ _ _) ?_ | refine seqE ?_ | refine blockN ?_ | refine blockE ?_))
    all_goals first
      | (exfalso; omega)
      | (refine ⟨eA, _, [], resA, .ch .nil, ?_⟩
         exact ⟨by rw [List.take_length]; rfl, rfl⟩)
set_option maxRecDepth 10000 in
set_option maxHeartbeats 2000000 in
theorem specFmap_c (n : Int) (os : List (Int × List Int)) (k : Int) (im : List Int) (o : Option (List (List Int))) (hoo : FreeIs n os k o) (hol : os.length ≤ 4611686018427387904) (ho : OpsLen os) (him : im.length ≤ 4611686018427387904) :
    Spec Try.prog 42 [vagg [vint n, vsl 2 (fun y : Int × (List Int) => [vint y.1, vsl 1 (fun x : Int => [vint x]) y.2]) os], vint k, vsl 1 (fun x : Int => [vint x]) im] [] (LnRes (fmapV n k im (genO (rankB n os k) o))) := by
  cases hO : genO (rankB n os k) o with
  | none =>
    refine Spec.of_run2 (n := 55) Try.func42 rfl Try.results42 Try.ntmps42 rfl ?_
    repeat' (first | (with_reducible first | refine RL.done ?_ | refine RL.app1 ?_) | (with_reducible refine RL.wanted ?_ ?_; exact rfl) | ((with_reducible show RH _ _ _ ⟨some 3, .box _ _, _, _, _, _⟩ _ _ _ _); (refine RH.boxAgg rfl rfl ?_; rintro _ _ ⟨b3, rfl, rfl⟩)) | ((with_reducible show RH _ _ _ ⟨some 33, .buildSlice _ _ _, _, _, _, _⟩ _ _ _ _); refine RH.eff rfl rfl (EOpS.e (EOpS.slit (fun x : Int => [vint x]) _ (fun _ _ => rfl) (by repeat (first | exact Elts.nil | (apply Elts.cons; exact rfl; exact CellsOf.one))) rfl rfl)) ?_; rintro _ _ ⟨b33, rfl, rfl⟩) | ((with_reducible show RH _ _ _ ⟨_, .call ⟨.value (.func 77), _, _⟩, _, _, _, _⟩ _ _ _ _); refine RH.cP Try.call77 ?_; refine ⟨_, freeS_no hoo hol ho hO, ?_⟩; rintro _ _ ⟨s8, rfl, rfl⟩) | ((with_reducible show RH _ _ _ _ _ _ _ _); refine RH.val (hK := ?_)) | (with_reducible show RL _ _ _ (_ :: _) _ _ _; refine RL.guardNoS rfl rfl rfl rfl rfl rfl ?_) | (with_reducible first | refine Run.seq ?_ | refine Run.region ?_ | refine Run.ret ?_) | (with_reducible show Run _ _ (.cond _ _ _) _ _ _; refine Run.condT rfl ?_) | (with_reducible first | refine seqN (K := Run _ _ _ _) ?_ | refine seqR ?_))
    all_goals (refine ⟨eA, _, [hsl tInt (vsv (some ⟨b33, 0, none⟩, 0, 0)) []], resA, ?_, ?_⟩
               · exact (SEnt.packNil tInt rfl).trans (SEnt.ch (.cons .head rfl .nil))
               · exact ⟨_, rfl, rfl⟩)
  | some X =>
    obtain ⟨hg, rfl⟩ := genO_some hO
    have hF := free_ok hg hoo
    obtain ⟨ha, hk, hp⟩ := rankB_at hg
    obtain ⟨hn1, hn8, _, _⟩ := algB_at ha
    obtain ⟨hfl, hf1, hf64⟩ := fLen_at hg
    have hfew := hF.few
    have hE := l2Elements_c n im (by omega) him
    by_cases h1 : (im.length : Int) = k
    · cases he : elB n im with
      | true =>
        rw [he] at hE
        have e : fmapV n k im (some X) = some (mapTo X (hor n im).toNat) := by rw [fmapV, if_pos ⟨h1, he⟩]
        obtain ⟨hb1, hb2⟩ := hor_bound n (by omega) im he im.length (Nat.le_refl _)
        rw [List.take_length] at hb1 hb2
        rw [show im.length = k.toNat by omega, ← hfl] at hb2
        rw [e]
        refine Spec.of_run2 (n := 55) Try.func42 rfl Try.results42 Try.ntmps42 rfl ?_
        repeat' (first | (with_reducible first | refine RL.done ?_ | refine RL.app0 ?_) | (with_reducible refine RL.wanted ?_ ?_; exact rfl) | ((with_reducible show RH _ _ _ ⟨some 3, .box _ _, _, _, _, _⟩ _ _ _ _); (refine RH.boxAgg rfl rfl ?_; rintro _ _ ⟨b3, rfl, rfl⟩)) | ((with_reducible show RH _ _ _ ⟨some 33, .buildSlice _ _ _, _, _, _, _⟩ _ _ _ _); refine RH.eff rfl rfl (EOpS.e (EOpS.slit (fun x : Int => [vint x]) _ (fun _ _ => rfl) (by repeat (first | exact Elts.nil | (apply Elts.cons; exact rfl; exact CellsOf.one))) rfl rfl)) ?_; rintro _ _ ⟨b33, rfl, rfl⟩) | ((with_reducible show RH _ _ _ ⟨some 34, .buildSlice _ _ _, _, _, _, _⟩ _ _ _ _); refine RH.eff rfl rfl (EOpS.e (EOpS.slit (fun x : Int => [vint x]) _ (fun _ _ => rfl) (by repeat (first | exact Elts.nil | (apply Elts.cons; exact rfl; exact CellsOf.one))) rfl rfl)) ?_; rintro _ _ ⟨b34, rfl, rfl⟩) | ((with_reducible show RH _ _ _ ⟨_, .call ⟨.value (.func 77), _, _⟩, _, _, _, _⟩ _ _ _ _); refine RH.cP Try.call77 ?_; refine ⟨_, freeS_frz hoo hol ho hO, ?_⟩; rintro _ _ ⟨rfl, rfl⟩) | ((with_reducible show RH _ _ _ ⟨_, .call ⟨.value (.func 85), _, _⟩, _, _, _, _⟩ _ _ _ _); refine RH.cP Try.call85 ?_; refine ⟨_, hE, ?_⟩; rintro _ _ ⟨rfl, rfl⟩) | ((with_reducible show RH _ _ _ _ _ _ _ _); refine RH.val (hK := ?_)) | (with_reducible show RL _ _ _ (_ :: _) _ _ _; first | refine RL.guardYes rfl rfl rfl rfl ?_ | refine RL.guardNoS rfl rfl rfl rfl rfl rfl ?_ | refine RL.splitD rfl rfl rfl (fun h => ?_) (fun h => ?_)) | (with_reducible first | refine Run.seq ?_ | refine Run.region ?_ | refine Run.block ?_ | refine Run.skip ?_ | refine Run.ret ?_) | (with_reducible show Run _ _ (.cond _ _ _) _ _ _; first | refine Run.condT rfl ?_ | refine Run.condF rfl ?_) | (with_reducible first | refine seqN (K := Run _ _ _ _) ?_ | refine seqR ?_))
        all_goals first
          | (exfalso; omega)
          | (exfalso; simp_all; done)
          | skip
        refine Run.sent (T := [hsl tInt (vsv (some ⟨b34, 0, none⟩, 0, 0)) [], hcells b3 [vint n, vsl 2 (fun y : Int × (List Int) => [vint y.1, vsl 1 (fun x : Int => [vint x]) y.2]) os]]) (SEnt.packNil tInt rfl) ?_
        refine Run.loop (α := Nat × Sv) (fun z => [(2, vsl 1 (fun x : Int => [vint x]) im), (3, vptr b3 0), (8, vsl 1 (fun t : List Int => [vsl 1 (fun x : Int => [vint x]) t]) X), (10, vlit (vsv z.2)), (11, vint (z.1 : Int))])
          (fun z => [hsl tInt (vsv z.2) (mapTo (X.take z.1) (hor n im).toNat), hcells b3 [vint n, vsl 2 (fun y : Int × (List Int) => [vint y.1, vsl 1 (fun x : Int => [vint x]) y.2]) os]]) (fun z => z.1 ≤ X.length) (fun z => X.length - z.1) (0, (some ⟨b34, 0, none⟩, 0, 0)) (Nat.zero_le _) (Ent.of slA .refl) ?_
        rintro ⟨m, s⟩ hm
        dsimp only at hm ⊢
        have hml : (mapTo (X.take m) (hor n im).toNat).length = m := by rw [mapTo, List.length_map, List.length_take]; omega
        rcases Nat.lt_or_eq_of_le hm with h9 | h9
        · have hxl := (hF.tup _ (List.getElem_mem h9)).1
          have hd := mapTo_take (p := (hor n im).toNat) h9 (by omega)
          repeat' (first | (with_reducible first | refine RL.done ?_ | refine RD.app0 ?_) | (with_reducible refine RL.wanted ?_ ?_; exact rfl) | ((with_reducible show Run _ _ (.region 8 _ true) _ _ _); refine Run.regionD (fun i => i == 12) rfl ?_; change RD _ _ _ _ _ _ 14 (dm 14 0) _ _) | ((with_reducible show RD _ _ 8 _ _ _ _ _ _ _); first | ((with_reducible show RD _ _ _ _ _ _ _ (dm 14 0) _ _); refine RD.tk 0 (dm 14 12288) (dm 14 1) (hK := ?_)) | ((with_reducible show RD _ _ _ _ _ _ _ (dm 14 1) _ _); refine RD.tk 1 (dm 14 15896) (dm 14 3) (hK := ?_)) | ((with_reducible show RD _ _ _ _ _ _ _ (dm 14 3) _ _); refine RD.tk 2 (dm 14 15896) (dm 14 7) (hK := ?_)) | ((with_reducible show RD _ _ _ _ _ _ _ (dm 14 7) _ _); refine RD.tk 3 (dm 14 15888) (dm 14 15) (hK := ?_)) | ((with_reducible show RD _ _ _ _ _ _ _ (dm 14 15) _ _); refine RD.tk 4 (dm 14 15872) (dm 14 31) (hK := ?_)) | ((with_reducible show RD _ _ _ _ _ _ _ (dm 14 31) _ _); refine RD.tk 5 (dm 14 16192) (dm 14 63) (hK := ?_)) | ((with_reducible show RD _ _ _ _ _ _ _ (dm 14 63) _ _); refine RD.tk 6 (dm 14 16128) (dm 14 127) (hK := ?_)) | ((with_reducible show RD _ _ _ _ _ _ _ (dm 14 127) _ _); refine RD.tk 7 (dm 14 16128) (dm 14 255) (hK := ?_)) | ((with_reducible show RD _ _ _ _ _ _ _ (dm 14 255) _ _); refine RD.a1 8 ?_) | ((with_reducible show RD _ _ _ _ _ _ _ (dm 14 511) _ _); refine RD.tk 9 (dm 14 15360) (dm 14 1023) (hK := ?_)) | ((with_reducible show RD _ _ _ _ _ _ _ (dm 14 1023) _ _); refine RD.tk 10 (dm 14 14336) (dm 14 2047) (hK := ?_)) | ((with_reducible show RD _ _ _ _ _ _ _ (dm 14 2047) _ _); refine RD.a1 11 ?_) | ((with_reducible show RD _ _ _ _ _ _ _ (dm 14 4095) _ _); refine RD.a1 12 ?_) | ((with_reducible show RD _ _ _ _ _ _ _ (dm 14 8191) _ _); refine RD.tk 13 (dm 14 0) (dm 14 16383) (hK := ?_)) | ((with_reducible show RD _ _ _ _ _ _ 0 _ _ _); refine RD.done (by kernel_rfl) ?_)) | ((with_reducible show RO _ _ 8 _ _ _ _ _ _ _ _); first | ((with_reducible show RO _ _ _ _ _ _ _ (dm 14 255) 8 _ _); (refine RO.cP (dm 14 511) Try.call99 ?_; refine ⟨_, l11Place_c n im hn1 hn8 (by omega) he, ?_⟩; rintro _ _ ⟨rfl, rfl⟩)) | ((with_reducible show RO _ _ _ _ _ _ _ (dm 14 2047) 11 _ _); (refine RO.eS (dm 14 4095) (hv := by show EOpS _ _ _ _ ⟨_, .buildSlice _ _ _, _, _, _, _⟩ _; exact EOpS.slit (fun x : Int => [vint x]) _ (fun _ _ => rfl) (by repeat (first | exact Elts.nil | (apply Elts.cons; exact rfl; exact CellsOf.one))) rfl rfl) (h := ?_); rintro _ _ ⟨b52, rfl, rfl⟩)) | ((with_reducible show RO _ _ _ _ _ _ _ (dm 14 4095) 12 _ _); (refine RO.h (dm 14 8191) ?_; show RH _ _ _ ⟨_, _, _, _, _, _⟩ _ _ _ _))) | ((with_reducible show RH _ _ _ ⟨_, .call ⟨.builtin .append, _, _⟩, _, _, _, _⟩ _ _ _ _); (refine RH.appI rfl rfl rfl (by repeat (first | exact Pick.nil | (apply Pick.cons; (with_reducible repeat (first | exact Rem.head | apply Rem.tail))))) (by first | omega | (simp; omega)) (by first | omega | (simp; omega)) ?_); rintro _ _ ⟨s, rfl, rfl⟩) | ((with_reducible show RH _ _ _ _ _ _ _ _); refine RH.val (hK := ?_)) | (with_reducible first | refine Run.seq ?_ | refine Run.region ?_ | refine Run.block ?_ | refine Run.skip ?_ | refine Run.exit ?_ | refine Run.ret ?_) | (with_reducible show Run _ _ (.cond _ _ _) _ _ _; refine Run.condD rfl (fun h => ?_) (fun h => ?_)) | (with_reducible first | refine seqN (K := Run _ _ _ _) ?_ | refine seqE ?_ | refine blockN ?_ | refine blockE ?_))
          all_goals first
            | (exfalso; omega)
            | (with_reducible refine seqN ?_
               exact ⟨(m + 1, _), by dsimp only; omega, by dsimp only; omega, Ent.of (by dsimp only; exact slA) (by dsimp only; rw [hd]; exact chA)⟩)
        · subst h9
          rw [List.take_length]
          repeat' (first | (with_reducible refine RL.done ?_) | (with_reducible refine RL.wanted ?_ ?_; exact rfl) | ((with_reducible show RH _ _ _ _ _ _ _ _); refine RH.val (hK := ?_)) | (with_reducible first | refine Run.seq ?_ | refine Run.region ?_ | refine Run.block ?_ | refine Run.skip ?_ | refine Run.exit ?_ | refine Run.ret ?_) | (with_reducible show Run _ _ (.cond _ _ _) _ _ _; refine Run.condD rfl (fun h => ?_) (fun h => ?_)) | (with_reducible first | refine seqN (K := Run _ _ _ _) ?_ | refine seqE ?_ | refine blockE ?_))
          all_goals first
            | (exfalso; omega)
            | (refine ⟨eA, _, [hsl tInt (vsv s) (mapTo X (hor n im).toNat)], resA, ?_, ?_⟩
               · exact SEnt.ch chA
               · exact ⟨s, rfl, rfl⟩)
      | false =>
        rw [he] at hE
        have e : fmapV n k im (some X) = none := by rw [fmapV, if_neg (fun h => by rw [he] at h; exact absurd h.2 (by decide))]
        rw [e]
        refine Spec.of_run2 (n := 55) Try.func42 rfl Try.results42 Try.ntmps42 rfl ?_
        repeat' (first | (with_reducible first | refine RL.done ?_ | refine RL.app0 ?_) | (with_reducible refine RL.wanted ?_ ?_; exact rfl) | ((with_reducible show RH _ _ _ ⟨some 3, .box _ _, _, _, _, _⟩ _ _ _ _); (refine RH.boxAgg rfl rfl ?_; rintro _ _ ⟨b3, rfl, rfl⟩)) | ((with_reducible show RH _ _ _ ⟨some 33, .buildSlice _ _ _, _, _, _, _⟩ _ _ _ _); refine RH.eff rfl rfl (EOpS.e (EOpS.slit (fun x : Int => [vint x]) _ (fun _ _ => rfl) (by repeat (first | exact Elts.nil | (apply Elts.cons; exact rfl; exact CellsOf.one))) rfl rfl)) ?_; rintro _ _ ⟨b33, rfl, rfl⟩) | ((with_reducible show RH _ _ _ ⟨_, .call ⟨.value (.func 77), _, _⟩, _, _, _, _⟩ _ _ _ _); refine RH.cP Try.call77 ?_; refine ⟨_, freeS_frz hoo hol ho hO, ?_⟩; rintro _ _ ⟨rfl, rfl⟩) | ((with_reducible show RH _ _ _ ⟨_, .call ⟨.value (.func 85), _, _⟩, _, _, _, _⟩ _ _ _ _); refine RH.cP Try.call85 ?_; refine ⟨_, hE, ?_⟩; rintro _ _ ⟨rfl, rfl⟩) | ((with_reducible show RH _ _ _ _ _ _ _ _); refine RH.val (hK := ?_)) | (with_reducible show RL _ _ _ (_ :: _) _ _ _; first | refine RL.guardYes rfl rfl rfl rfl ?_ | refine RL.guardNoS rfl rfl rfl rfl rfl rfl ?_ | refine RL.splitD rfl rfl rfl (fun h => ?_) (fun h => ?_)) | (with_reducible first | refine Run.seq ?_ | refine Run.region ?_ | refine Run.ret ?_) | (with_reducible show Run _ _ (.cond _ _ _) _ _ _; refine Run.condT rfl ?_) | (with_reducible first | refine seqN (K := Run _ _ _ _) ?_ | refine seqR ?_))
        all_goals first
          | (exfalso; omega)
          | (exfalso; simp_all; done)
          | (refine ⟨eA, _, [hsl tInt (vsv (some ⟨b33, 0, none⟩, 0, 0)) []], resA, ?_, ?_⟩
             · exact (SEnt.packNil tInt rfl).trans (SEnt.ch (.cons .head rfl .nil))
             · exact ⟨(some ⟨b33, 0, none⟩, 0, 0), rfl, rfl⟩)
    · have e : fmapV n k im (some X) = none := by rw [fmapV, if_neg (fun h => h1 h.1)]
      rw [e]
      refine Spec.of_run2 (n := 55) Try.func42 rfl Try.results42 Try.ntmps42 rfl ?_
      repeat' (first | (with_reducible first | refine RL.done ?_ | refine RL.app0 ?_) | (with_reducible refine RL.wanted ?_ ?_; exact rfl) | ((with_reducible show RH _ _ _ ⟨some 3, .box _ _, _, _, _, _⟩ _ _ _ _); (refine RH.boxAgg rfl rfl ?_; rintro _ _ ⟨b3, rfl, rfl⟩)) | ((with_reducible show RH _ _ _ ⟨some 33, .buildSlice _ _ _, _, _, _, _⟩ _ _ _ _); refine RH.eff rfl rfl (EOpS.e (EOpS.slit (fun x : Int => [vint x]) _ (fun _ _ => rfl) (by repeat (first | exact Elts.nil | (apply Elts.cons; exact rfl; exact CellsOf.one))) rfl rfl)) ?_; rintro _ _ ⟨b33, rfl, rfl⟩) | ((with_reducible show RH _ _ _ ⟨_, .call ⟨.value (.func 77), _, _⟩, _, _, _, _⟩ _ _ _ _); refine RH.cP Try.call77 ?_; refine ⟨_, freeS_frz hoo hol ho hO, ?_⟩; rintro _ _ ⟨rfl, rfl⟩) | ((with_reducible show RH _ _ _ _ _ _ _ _); refine RH.val (hK := ?_)) | (with_reducible show RL _ _ _ (_ :: _) _ _ _; first | refine RL.guardYes rfl rfl rfl rfl ?_ | refine RL.guardNoS rfl rfl rfl rfl rfl rfl ?_ | refine RL.splitD rfl rfl rfl (fun h => ?_) (fun h => ?_)) | (with_reducible first | refine Run.seq ?_ | refine Run.region ?_ | refine Run.ret ?_) | (with_reducible show Run _ _ (.cond _ _ _) _ _ _; refine Run.condT rfl ?_) | (with_reducible first | refine seqN (K := Run _ _ _ _) ?_ | refine seqR ?_))
      all_goals first
        | (refine ⟨eA, _, [hsl tInt (vsv (some ⟨b33, 0, none⟩, 0, 0)) []], resA, ?_, ?_⟩
           · exact (SEnt.packNil tInt rfl).trans (SEnt.ch (.cons .head rfl .nil))
           · exact ⟨(some ⟨b33, 0, none⟩, 0, 0), rfl, rfl⟩)
        | (exfalso; omega)
        | (exfalso; exact h1 (by assumption))
        | (exfalso; exact (by assumption : ¬ _ ≠ _) h1)
set_option maxRecDepth 10000 in
set_option maxHeartbeats 2000000 in
theorem implFmap_c (n : Int) (os : List (Int × List Int)) (k : Int) (im : List Int) (o : Option (List (List Int))) (hoo : FreeIs n os k o) (hol : os.length ≤ 4611686018427387904) (ho : OpsLen os) (him : im.length ≤ 4611686018427387904) :
    Spec Try.prog 43 [vagg [vint n, vsl 2 (fun y : Int × (List Int) => [vint y.1, vsl 1 (fun x : Int => [vint x]) y.2]) os], vint k, vsl 1 (fun x : Int => [vint x]) im] [] (LnRes (fmapV n k im (genO (rankB n os k) o))) := by
  cases hO : genO (rankB n os k) o with
  | none =>
    refine Spec.of_run2 (n := 62) Try.func43 rfl Try.results43 Try.ntmps43 rfl ?_
    repeat' (first | (with_reducible first | refine RL.done ?_ | refine RL.app0 ?_) | (with_reducible refine RL.wanted ?_ ?_; exact rfl) | ((with_reducible show RH _ _ _ ⟨some 3, .box _ _, _, _, _, _⟩ _ _ _ _); (refine RH.boxAgg rfl rfl ?_; rintro _ _ ⟨b3, rfl, rfl⟩)) | ((with_reducible show RH _ _ _ ⟨some 35, .buildSlice _ _ _, _, _, _, _⟩ _ _ _ _); refine RH.eff rfl rfl (EOpS.e (EOpS.slit (fun x : Int => [vint x]) _ (fun _ _ => rfl) (by repeat (first | exact Elts.nil | (apply Elts.cons; exact rfl; exact CellsOf.one))) rfl rfl)) ?_; rintro _ _ ⟨b35, rfl, rfl⟩) | ((with_reducible show RH _ _ _ ⟨_, .call ⟨.value (.func 82), _, _⟩, _, _, _, _⟩ _ _ _ _); refine RH.cP Try.call82 ?_; refine ⟨_, freeI_no hoo hol ho hO, ?_⟩; rintro _ _ ⟨rfl, rfl⟩) | ((with_reducible show RH _ _ _ _ _ _ _ _); refine RH.val (hK := ?_)) | (with_reducible show RL _ _ _ (_ :: _) _ _ _; refine RL.guardNoS rfl rfl rfl rfl rfl rfl ?_) | (with_reducible first | refine Run.seq ?_ | refine Run.region ?_ | refine Run.ret ?_) | (with_reducible show Run _ _ (.cond _ _ _) _ _ _; refine Run.condT rfl ?_) | (with_reducible first | refine seqN (K := Run _ _ _ _) ?_ | refine seqR ?_))
    all_goals (refine ⟨eA, _, [hsl tInt (vsv (some ⟨b35, 0, none⟩, 0, 0)) []], resA, ?_, ?_⟩
               · exact (SEnt.packNil tInt rfl).trans (SEnt.ch (.cons .head rfl .nil))
               · exact ⟨_, rfl, rfl⟩)
  | some X =>
    obtain ⟨hg, rfl⟩ := genO_some hO
    have hF := free_ok hg hoo
    obtain ⟨ha, hk, hp⟩ := rankB_at hg
    obtain ⟨hn1, hn8, _, _⟩ := algB_at ha
    obtain ⟨hfl, hf1, hf64⟩ := fLen_at hg
    have hfew := hF.few
    have hE := inSize_c n im him
    by_cases h1 : (im.length : Int) = k
    · cases he : elB n im with
      | true =>
        rw [he] at hE
        have e : fmapV n k im (some X) = some (mapTo X (hor n im).toNat) := by rw [fmapV, if_pos ⟨h1, he⟩]
        obtain ⟨hb1, hb2⟩ := hor_bound n (by omega) im he im.length (Nat.le_refl _)
        rw [List.take_length] at hb1 hb2
        rw [show im.length = k.toNat by omega, ← hfl] at hb2
        rw [e]
        refine Spec.of_run2 (n := 62) Try.func43 rfl Try.results43 Try.ntmps43 rfl ?_
        repeat' (first | (with_reducible first | refine RL.done ?_ | refine RL.app0 ?_ | refine RL.app3 ?_) | (with_reducible refine RL.wanted ?_ ?_; exact rfl) | ((with_reducible show RH _ _ _ ⟨some 3, .box _ _, _, _, _, _⟩ _ _ _ _); (refine RH.boxAgg rfl rfl ?_; rintro _ _ ⟨b3, rfl, rfl⟩)) | ((with_reducible show RH _ _ _ ⟨some 35, .buildSlice _ _ _, _, _, _, _⟩ _ _ _ _); refine RH.eff rfl rfl (EOpS.e (EOpS.slit (fun x : Int => [vint x]) _ (fun _ _ => rfl) (by repeat (first | exact Elts.nil | (apply Elts.cons; exact rfl; exact CellsOf.one))) rfl rfl)) ?_; rintro _ _ ⟨b35, rfl, rfl⟩) | ((with_reducible show RH _ _ _ ⟨some 40, .buildSlice _ _ _, _, _, _, _⟩ _ _ _ _); refine RH.eff rfl rfl (EOpS.e (EOpS.slit (fun x : Int => [vint x]) _ (fun _ _ => rfl) (by repeat (first | exact Elts.nil | (apply Elts.cons; exact rfl; exact CellsOf.one))) rfl rfl)) ?_; rintro _ _ ⟨b40, rfl, rfl⟩) | ((with_reducible show RH _ _ _ ⟨_, .call ⟨.value (.func 82), _, _⟩, _, _, _, _⟩ _ _ _ _); refine RH.cP Try.call82 ?_; refine ⟨_, freeI_frz hoo hol ho hO, ?_⟩; rintro _ _ ⟨b, bs, bm, kv, rfl, rfl, hkv⟩) | ((with_reducible show RH _ _ _ ⟨_, .call ⟨.value (.func 90), _, _⟩, _, _, _, _⟩ _ _ _ _); refine RH.cP Try.call90 ?_; refine ⟨_, hE, ?_⟩; rintro _ _ ⟨rfl, rfl⟩) | ((with_reducible show RH _ _ _ ⟨_, .call ⟨.value (.func 100), _, _⟩, _, _, _, _⟩ _ _ _ _); refine RH.cP Try.call100 ?_; refine ⟨_, indexOf_c n im hn1 hn8 (by omega) he, ?_⟩; rintro _ _ ⟨rfl, rfl⟩) | ((with_reducible show RH _ _ _ _ _ _ _ _); refine RH.val (hK := ?_)) | (with_reducible show RL _ _ _ (_ :: _) _ _ _; first | refine RL.guardYes rfl rfl rfl rfl ?_ | refine RL.guardNoS rfl rfl rfl rfl rfl rfl ?_ | refine RL.splitD rfl rfl rfl (fun h => ?_) (fun h => ?_)) | (with_reducible first | refine Run.seq ?_ | refine Run.region ?_ | refine Run.block ?_ | refine Run.skip ?_ | refine Run.ret ?_) | (with_reducible show Run _ _ (.cond _ _ _) _ _ _; first | refine Run.condT rfl ?_ | refine Run.condF rfl ?_) | (with_reducible first | refine seqN (K := Run _ _ _ _) ?_ | refine seqR ?_))
        all_goals first
          | (exfalso; omega)
          | (exfalso; simp_all; done)
          | skip
        refine Run.sent (T := [hsl tInt (vsv (some ⟨b40, 0, none⟩, 0, 0)) []]) ((SEnt.packNil tInt rfl).trans (SEnt.ch (.cons .head rfl .nil))) ?_
        refine Run.loop (α := Nat × Sv) (fun z => [(10, vint (hor n im)), (11, vlit (vsv z.2)), (47, vsl 1 (fun t : List Int => [vsl 1 (fun x : Int => [vint x]) t]) X), (48, vint (X.length : Int)), (49, vint (z.1 : Int))])
          (fun z => [hsl tInt (vsv z.2) (mapTo (X.take z.1) (hor n im).toNat)]) (fun z => z.1 ≤ X.length) (fun z => X.length - z.1) (0, (some ⟨b40, 0, none⟩, 0, 0)) (Nat.zero_le _) (Ent.of slA .refl) ?_
        rintro ⟨m, s⟩ hm
        dsimp only at hm ⊢
        have hml : (mapTo (X.take m) (hor n im).toNat).length = m := by rw [mapTo, List.length_map, List.length_take]; omega
        rcases Nat.lt_or_eq_of_le hm with h9 | h9
        · have hxl := (hF.tup _ (List.getElem_mem h9)).1
          have hd := mapTo_take (p := (hor n im).toNat) h9 (by omega)
          repeat' (first | (with_reducible refine RL.done ?_) | (with_reducible refine RL.wanted ?_ ?_; exact rfl) | ((with_reducible show RH _ _ _ ⟨some 58, .buildSlice _ _ _, _, _, _, _⟩ _ _ _ _); refine RH.eff rfl rfl (EOpS.e (EOpS.slit (fun x : Int => [vint x]) _ (fun _ _ => rfl) (by repeat (first | exact Elts.nil | (apply Elts.cons; exact rfl; exact CellsOf.one))) rfl rfl)) ?_; rintro _ _ ⟨b58, rfl, rfl⟩) | ((with_reducible show RH _ _ _ ⟨_, .call ⟨.builtin .append, _, _⟩, _, _, _, _⟩ _ _ _ _); (refine RH.appI rfl rfl rfl (by repeat (first | exact Pick.nil | (apply Pick.cons; (with_reducible repeat (first | exact Rem.head | apply Rem.tail))))) (by first | omega | (simp; omega)) (by first | omega | (simp; omega)) ?_); rintro _ _ ⟨s, rfl, rfl⟩) | ((with_reducible show RH _ _ _ _ _ _ _ _); refine RH.val (hK := ?_)) | (with_reducible first | refine Run.seq ?_ | refine Run.region ?_ | refine Run.block ?_ | refine Run.skip ?_ | refine Run.exit ?_ | refine Run.ret ?_) | (with_reducible show Run _ _ (.cond _ _ _) _ _ _; refine Run.condD rfl (fun h => ?_) (fun h => ?_)) | (with_reducible first | refine seqN (K := Run _ _ _ _) ?_ | refine seqE ?_ | refine blockN ?_ | refine blockE ?_))
          all_goals first
            | (exfalso; omega)
            | (with_reducible refine seqN ?_
               exact ⟨(m + 1, _), by dsimp only; omega, by dsimp only; omega, Ent.of (by dsimp only; exact slA) (by dsimp only; rw [hd]; exact chA)⟩)
        · subst h9
          rw [List.take_length]
          repeat' (first | (with_reducible refine RL.done ?_) | (with_reducible refine RL.wanted ?_ ?_; exact rfl) | ((with_reducible show RH _ _ _ ⟨some 58, .buildSlice _ _ _, _, _, _, _⟩ _ _ _ _); refine RH.eff rfl rfl (EOpS.e (EOpS.slit (fun x : Int => [vint x]) _ (fun _ _ => rfl) (by repeat (first | exact Elts.nil | (apply Elts.cons; exact rfl; exact CellsOf.one))) rfl rfl)) ?_; rintro _ _ ⟨b58, rfl, rfl⟩) | ((with_reducible show RH _ _ _ _ _ _ _ _); refine RH.val (hK := ?_)) | (with_reducible first | refine Run.seq ?_ | refine Run.region ?_ | refine Run.block ?_ | refine Run.skip ?_ | refine Run.exit ?_ | refine Run.ret ?_) | (with_reducible show Run _ _ (.cond _ _ _) _ _ _; refine Run.condD rfl (fun h => ?_) (fun h => ?_)) | (with_reducible first | refine seqN (K := Run _ _ _ _) ?_ | refine seqE ?_ | refine blockE ?_))
          all_goals first
            | (exfalso; omega)
            | (refine ⟨eA, _, [hsl tInt (vsv s) (mapTo X (hor n im).toNat)], resA, ?_, ?_⟩
               · exact SEnt.ch chA
               · exact ⟨s, rfl, rfl⟩)
      | false =>
        rw [he] at hE
        have e : fmapV n k im (some X) = none := by rw [fmapV, if_neg (fun h => by rw [he] at h; exact absurd h.2 (by decide))]
        rw [e]
        refine Spec.of_run2 (n := 62) Try.func43 rfl Try.results43 Try.ntmps43 rfl ?_
        repeat' (first | (with_reducible first | refine RL.done ?_ | refine RL.app0 ?_ | refine RL.app3 ?_) | (with_reducible refine RL.wanted ?_ ?_; exact rfl) | ((with_reducible show RH _ _ _ ⟨some 3, .box _ _, _, _, _, _⟩ _ _ _ _); (refine RH.boxAgg rfl rfl ?_; rintro _ _ ⟨b3, rfl, rfl⟩)) | ((with_reducible show RH _ _ _ ⟨some 35, .buildSlice _ _ _, _, _, _, _⟩ _ _ _ _); refine RH.eff rfl rfl (EOpS.e (EOpS.slit (fun x : Int => [vint x]) _ (fun _ _ => rfl) (by repeat (first | exact Elts.nil | (apply Elts.cons; exact rfl; exact CellsOf.one))) rfl rfl)) ?_; rintro _ _ ⟨b35, rfl, rfl⟩) | ((with_reducible show RH _ _ _ ⟨_, .call ⟨.value (.func 82), _, _⟩, _, _, _, _⟩ _ _ _ _); refine RH.cP Try.call82 ?_; refine ⟨_, freeI_frz hoo hol ho hO, ?_⟩; rintro _ _ ⟨b, bs, bm, kv, rfl, rfl, hkv⟩) | ((with_reducible show RH _ _ _ ⟨_, .call ⟨.value (.func 90), _, _⟩, _, _, _, _⟩ _ _ _ _); refine RH.cP Try.call90 ?_; refine ⟨_, hE, ?_⟩; rintro _ _ ⟨rfl, rfl⟩) | ((with_reducible show RH _ _ _ _ _ _ _ _); refine RH.val (hK := ?_)) | (with_reducible show RL _ _ _ (_ :: _) _ _ _; first | refine RL.guardYes rfl rfl rfl rfl ?_ | refine RL.guardNoS rfl rfl rfl rfl rfl rfl ?_ | refine RL.splitD rfl rfl rfl (fun h => ?_) (fun h => ?_)) | (with_reducible first | refine Run.seq ?_ | refine Run.region ?_ | refine Run.ret ?_) | (with_reducible show Run _ _ (.cond _ _ _) _ _ _; refine Run.condT rfl ?_) | (with_reducible first | refine seqN (K := Run _ _ _ _) ?_ | refine seqR ?_))
        all_goals first
          | (exfalso; omega)
          | (exfalso; simp_all; done)
          | (refine ⟨eA, _, [hsl tInt (vsv (some ⟨b35, 0, none⟩, 0, 0)) []], resA, ?_, ?_⟩
             · exact (SEnt.packNil tInt rfl).trans (SEnt.ch (.cons .head rfl .nil))
             · exact ⟨(some ⟨b35, 0, none⟩, 0, 0), rfl, rfl⟩)
    · have e : fmapV n k im (some X) = none := by rw [fmapV, if_neg (fun h => h1 h.1)]
      rw [e]
      refine Spec.of_run2 (n := 62) Try.func43 rfl Try.results43 Try.ntmps43 rfl ?_
      repeat' (first | (with_reducible first | refine RL.done ?_ | refine RL.app3 ?_) | (with_reducible refine RL.wanted ?_ ?_; exact rfl) | ((with_reducible show RH _ _ _ ⟨some 3, .box _ _, _, _, _, _⟩ _ _ _ _); (refine RH.boxAgg rfl rfl ?_; rintro _ _ ⟨b3, rfl, rfl⟩)) | ((with_reducible show RH _ _ _ ⟨some 35, .buildSlice _ _ _, _, _, _, _⟩ _ _ _ _); refine RH.eff rfl rfl (EOpS.e (EOpS.slit (fun x : Int => [vint x]) _ (fun _ _ => rfl) (by repeat (first | exact Elts.nil | (apply Elts.cons; exact rfl; exact CellsOf.one))) rfl rfl)) ?_; rintro _ _ ⟨b35, rfl, rfl⟩) | ((with_reducible show RH _ _ _ ⟨_, .call ⟨.value (.func 82), _, _⟩, _, _, _, _⟩ _ _ _ _); refine RH.cP Try.call82 ?_; refine ⟨_, freeI_frz hoo hol ho hO, ?_⟩; rintro _ _ ⟨b, bs, bm, kv, rfl, rfl, hkv⟩) | ((with_reducible show RH _ _ _ _ _ _ _ _); refine RH.val (hK := ?_)) | (with_reducible show RL _ _ _ (_ :: _) _ _ _; first | refine RL.guardYes rfl rfl rfl rfl ?_ | refine RL.guardNoS rfl rfl rfl rfl rfl rfl ?_ | refine RL.splitD rfl rfl rfl (fun h => ?_) (fun h => ?_)) | (with_reducible first | refine Run.seq ?_ | refine Run.region ?_ | refine Run.ret ?_) | (with_reducible show Run _ _ (.cond _ _ _) _ _ _; refine Run.condT rfl ?_) | (with_reducible first | refine seqN (K := Run _ _ _ _) ?_ | refine seqR ?_))
      all_goals first
        | (refine ⟨eA, _, [hsl tInt (vsv (some ⟨b35, 0, none⟩, 0, 0)) []], resA, ?_, ?_⟩
           · exact (SEnt.packNil tInt rfl).trans (SEnt.ch (.cons .head rfl .nil))
           · exact ⟨(some ⟨b35, 0, none⟩, 0, 0), rfl, rfl⟩)
        | (exfalso; omega)
        | (exfalso; exact h1 (by assumption))
        | (exfalso; exact (by assumption : ¬ _ ≠ _) h1)
end Go.Proofs.Ytejeeokjjbiadaa

namespace Go.Proofs.Ytejeeokjjbiadaa
open Go Go.Proofs
set_option linter.unusedVariables false

theorem fmap_small {n : Int} {os : List (Int × List Int)} {k : Int} {im : List Int} {o : Option (List (List Int))} (h : FreeIs n os k o) : ((fmapV n k im (genO (rankB n os k) o)).getD []).length ≤ 300 := by
  cases hX : genO (rankB n os k) o with
  | none => simp [fmapV]
  | some X =>
    obtain ⟨h1, h2⟩ := free_few h X hX
    rw [fmapV]
    split
    · show (mapTo X (hor n im).toNat).length ≤ 300
      rw [mapTo, List.length_map]; exact h1
    · simp
set_option maxRecDepth 10000 in
set_option maxHeartbeats 8000000 in
theorem law_g (a : Int × (List (Int × (List Int)))) (k : Int) (e : List Int) (r0 : List Int) (r1 : Bool) (g0 : (InR a.1) ∧ (a.2.length ≤ 9223372036854775807 ∧ ∀ y0 ∈ a.2, (InR y0.1) ∧ (y0.2.length ≤ 9223372036854775807 ∧ ∀ y1 ∈ y0.2, InR y1))) (g1 : InR k) (g2 : e.length ≤ 9223372036854775807 ∧ ∀ y0 ∈ e, InR y0)
    (hall : a.2.length + sm (List.map (fun y : Int × (List Int) => y.2.length) a.2) ≤ 1048576 → e.length ≤ 1048576 → Spec Try.prog 42 [vagg [vint a.1, vsl 2 (fun y : Int × (List Int) => [vint y.1, vsl 1 (fun x : Int => [vint x]) y.2]) a.2], vint k, vsl 1 (fun x : Int => [vint x]) e] [] (fun r S' => ∃ w0 : Sv, r = vtup [vlit (vsv w0), vbool (r1)] ∧ S' = [hsl tInt (vsv w0) r0]) ∧ Spec Try.prog 43 [vagg [vint a.1, vsl 2 (fun y : Int × (List Int) => [vint y.1, vsl 1 (fun x : Int => [vint x]) y.2]) a.2], vint k, vsl 1 (fun x : Int => [vint x]) e] [] (fun r S' => ∃ w0 : Sv, r = vtup [vlit (vsv w0), vbool (r1)] ∧ S' = [hsl tInt (vsv w0) r0]) ∧ r0.length ≤ 1073741824) :
    Spec Try.prog 9 [vagg [vint a.1, vsl 2 (fun y : Int × (List Int) => [vint y.1, vsl 1 (fun x : Int => [vint x]) y.2]) a.2], vint k, vsl 1 (fun x : Int => [vint x]) e] [] (fun r S' => r = vbool true ∧ S' = []) := by
  refine Spec.of_run2 (n := 122) Try.func9 rfl Try.results9 Try.ntmps9 rfl ?_
  repeat' (first | (with_reducible first | refine RL.done ?_ | refine RL.app0 ?_) | (with_reducible refine RL.wanted ?_ ?_; exact rfl) | ((with_reducible show RH _ _ _ ⟨some 3, .box _ _, _, _, _, _⟩ _ _ _ _); (refine RH.boxAgg rfl rfl ?_; rintro _ _ ⟨b3, rfl, rfl⟩)) | ((with_reducible show RH _ _ _ ⟨_, .call ⟨.value (.func 15), _, _⟩, _, _, _, _⟩ _ _ _ _); refine RH.cP Try.call15 ?_; refine ⟨_, szAlgebra_c (a) _ (by omega) (by omega) g0, ?_⟩; rintro _ _ ⟨q0, rfl, rfl, hq0, hp0⟩) | ((with_reducible show RH _ _ _ _ _ _ _ _); refine RH.val (hK := ?_)) | (with_reducible first | refine Run.seq ?_ | refine Run.region ?_ | refine Run.skip ?_ | refine Run.ret ?_) | (with_reducible show Run _ _ (.cond _ _ _) _ _ _; refine Run.condD rfl (fun h => ?_) (fun h => ?_)) | (with_reducible first | refine seqN (K := Run _ _ _ _) ?_ | refine seqR ?_))
  · refine ⟨eA, _, [], resA, .ch .nil, ?_⟩; exact ⟨rfl, rfl⟩
  · refine ⟨eA, _, [], resA, .ch .nil, ?_⟩; exact ⟨rfl, rfl⟩
  · have hz0 := hp0 (by omega)
    have hS_a : a.2.length + sm (List.map (fun y : Int × (List Int) => y.2.length) a.2) ≤ 1048576 := by omega
    have hS_e : e.length ≤ 1048576 := by omega
    obtain ⟨hspec, himpl, hsm0⟩ := hall hS_a hS_e
    have hC0 := IntS_cxle r0
    (try dsimp only at *)
    repeat' (first | (with_reducible first | refine RL.done ?_ | refine RL.app1 ?_ | refine RD.app1 ?_) | (with_reducible refine RL.wanted ?_ ?_; exact rfl) | ((with_reducible show Run _ _ (.region 13 _ true) _ _ _); refine Run.regionD (fun i => false) rfl ?_; change RD _ _ _ _ _ _ 5 (dm 5 0) _ _) | ((with_reducible show RD _ _ 13 _ _ _ _ _ _ _); first | ((with_reducible show RD _ _ _ _ _ _ _ (dm 5 0) _ _); refine RD.tk 0 (dm 5 24) (dm 5 1) (hK := ?_)) | ((with_reducible show RD _ _ _ _ _ _ _ (dm 5 1) _ _); refine RD.tk 1 (dm 5 28) (dm 5 3) (hK := ?_)) | ((with_reducible show RD _ _ _ _ _ _ _ (dm 5 3) _ _); refine RD.a1 2 ?_) | ((with_reducible show RD _ _ _ _ _ _ _ (dm 5 7) _ _); refine RD.a1 3 ?_) | ((with_reducible show RD _ _ _ _ _ _ _ (dm 5 15) _ _); refine RD.tk 4 (dm 5 0) (dm 5 31) (hK := ?_)) | ((with_reducible show RD _ _ _ _ _ _ 0 _ _ _); refine RD.done (by kernel_rfl) ?_)) | ((with_reducible show RO _ _ 13 _ _ _ _ _ _ _ _); first | ((with_reducible show RO _ _ _ _ _ _ _ (dm 5 3) 2 _ _); (refine RO.cP (dm 5 7) Try.call17 ?_; refine ⟨_, toAlgebra_c (a) (by omega), ?_⟩; rintro _ _ ⟨s00, rfl, rfl⟩)) | ((with_reducible show RO _ _ _ _ _ _ _ (dm 5 7) 3 _ _); (refine RO.cL (dm 5 15) Try.call19 ?_; apply Exists.intro; apply And.intro; (focus ((repeat (first | exact LVs.nil | (apply LVs.sl; (with_reducible repeat (first | exact Has.head | apply Has.tail)); exact inferInstance; exact rfl) | apply LVs.agg | apply LVs.refl)); done)); refine ⟨_, eqAlgebra_g a a (by omega), (by intro r H h; first | (obtain ⟨rfl, rfl⟩ := h; exact ⟨inferInstance, inferInstance⟩) | (obtain ⟨_, rfl, rfl⟩ := h; exact ⟨inferInstance, inferInstance⟩) | (obtain ⟨_, _, rfl, rfl⟩ := h; exact ⟨inferInstance, inferInstance⟩) | (obtain ⟨_, _, rfl, rfl, _⟩ := h; exact ⟨inferInstance, inferInstance⟩)), ?_⟩; rintro _ _ ⟨rfl, rfl⟩; refine RD.nm ?_))) | ((with_reducible show RH _ _ _ ⟨some 10, .alloc _, _, _, _, _⟩ _ _ _ _); refine RH.alloc rfl ?_; rintro _ _ ⟨b10, rfl, rfl⟩) | ((with_reducible show RH _ _ _ ⟨_, .call ⟨.value (.func 17), _, _⟩, _, _, _, _⟩ _ _ _ _); refine RH.cP Try.call17 ?_; refine ⟨_, toAlgebra_c (a) (by omega), ?_⟩; rintro _ _ ⟨s00, rfl, rfl⟩) | ((with_reducible show RH _ _ _ ⟨_, .call ⟨.value (.func 23), _, _⟩, _, _, _, _⟩ _ _ _ _); refine RH.cP Try.call23 ?_; refine ⟨_, toIntS_c (e) (by omega), ?_⟩; rintro _ _ ⟨s20, rfl, rfl⟩) | ((with_reducible show RH _ _ _ ⟨_, .call ⟨.value (.func 42), _, _⟩, _, _, _, _⟩ _ _ _ _); refine RH.cL Try.call42 ?_; apply Exists.intro; apply And.intro; (focus ((repeat (first | exact LVs.nil | (apply LVs.sl; (with_reducible repeat (first | exact Has.head | apply Has.tail)); exact inferInstance; exact rfl) | apply LVs.agg | apply LVs.refl)); done)); refine ⟨_, hspec, (by intro r H h; first | (obtain ⟨rfl, rfl⟩ := h; exact ⟨inferInstance, inferInstance⟩) | (obtain ⟨_, rfl, rfl⟩ := h; exact ⟨inferInstance, inferInstance⟩) | (obtain ⟨_, _, rfl, rfl⟩ := h; exact ⟨inferInstance, inferInstance⟩) | (obtain ⟨_, _, rfl, rfl, _⟩ := h; exact ⟨inferInstance, inferInstance⟩)), ?_⟩; rintro _ _ ⟨w0, rfl, rfl⟩; refine RL.nm ?_) | ((with_reducible show RH _ _ _ ⟨_, .call ⟨.value (.func 43), _, _⟩, _, _, _, _⟩ _ _ _ _); refine RH.cL Try.call43 ?_; apply Exists.intro; apply And.intro; (focus ((repeat (first | exact LVs.nil | (apply LVs.sl; (with_reducible repeat (first | exact Has.head | apply Has.tail)); exact inferInstance; exact rfl) | apply LVs.agg | apply LVs.refl)); done)); refine ⟨_, himpl, (by intro r H h; first | (obtain ⟨rfl, rfl⟩ := h; exact ⟨inferInstance, inferInstance⟩) | (obtain ⟨_, rfl, rfl⟩ := h; exact ⟨inferInstance, inferInstance⟩) | (obtain ⟨_, _, rfl, rfl⟩ := h; exact ⟨inferInstance, inferInstance⟩) | (obtain ⟨_, _, rfl, rfl, _⟩ := h; exact ⟨inferInstance, inferInstance⟩)), ?_⟩; rintro _ _ ⟨g0, rfl, rfl⟩; refine RL.nm ?_) | ((with_reducible show RH _ _ _ ⟨_, .call ⟨.value (.func 25), _, _⟩, _, _, _, _⟩ _ _ _ _); refine RH.cL Try.call25 ?_; apply Exists.intro; apply And.intro; (focus ((repeat (first | exact LVs.nil | (apply LVs.sl; (with_reducible repeat (first | exact Has.head | apply Has.tail)); exact inferInstance; exact rfl))); done)); refine ⟨_, eqIntS_c r0 r0 (by (try dsimp only); first | omega | assumption), (by intro r H h; first | (obtain ⟨rfl, rfl⟩ := h; exact ⟨inferInstance, inferInstance⟩) | (obtain ⟨_, rfl, rfl⟩ := h; exact ⟨inferInstance, inferInstance⟩) | (obtain ⟨_, _, rfl, rfl⟩ := h; exact ⟨inferInstance, inferInstance⟩) | (obtain ⟨_, _, rfl, rfl, _⟩ := h; exact ⟨inferInstance, inferInstance⟩)), ?_⟩; rintro _ _ ⟨rfl, rfl⟩; refine RL.nm ?_) | ((with_reducible show RH _ _ _ ⟨_, .call ⟨.value (.func 33), _, _⟩, _, _, _, _⟩ _ _ _ _); refine RH.cW Try.call33 ?_; refine ⟨_, _, _, (by repeat (first | exact Pick.nil | (apply Pick.cons; (with_reducible repeat (first | exact Rem.head | apply Rem.tail))))), markIntS_x _ r0 _ (by omega) (by omega), ?_⟩; rintro _ _ ⟨rfl, rfl⟩; refine RL.nm ?_) | ((with_reducible show RH _ _ _ ⟨_, .call ⟨.value (.func 34), _, _⟩, _, _, _, _⟩ _ _ _ _); refine RH.cL Try.call34 ?_; apply Exists.intro; apply And.intro; (focus ((repeat (first | exact LVs.nil | (apply LVs.sl; (with_reducible repeat (first | exact Has.head | apply Has.tail)); exact inferInstance; exact rfl) | apply LVs.refl)); done)); refine ⟨_, heldIntS_x r0 _ (by omega) (by omega), (by intro r H h; first | (obtain ⟨rfl, rfl⟩ := h; exact ⟨inferInstance, inferInstance⟩) | (obtain ⟨_, rfl, rfl⟩ := h; exact ⟨inferInstance, inferInstance⟩) | (obtain ⟨_, _, rfl, rfl⟩ := h; exact ⟨inferInstance, inferInstance⟩) | (obtain ⟨_, _, rfl, rfl, _⟩ := h; exact ⟨inferInstance, inferInstance⟩)), ?_⟩; rintro _ _ ⟨rfl, rfl⟩; refine RL.nm ?_) | ((with_reducible show RH _ _ _ ⟨_, .call ⟨.value (.func 20), _, _⟩, _, _, _, _⟩ _ _ _ _); refine RH.cW Try.call20 ?_; refine ⟨_, _, _, (by repeat (first | exact Pick.nil | (apply Pick.cons; (with_reducible repeat (first | exact Rem.head | apply Rem.tail))))), markAlgebra_s _ a _ (by omega) (by omega), ?_⟩; rintro _ _ ⟨y0, k0, rfl, rfl, hmA0, hmB0⟩; refine RL.nm ?_) | ((with_reducible show RH _ _ _ ⟨_, .call ⟨.value (.func 25), _, _⟩, _, _, _, _⟩ _ _ _ _); refine RH.cL Try.call25 ?_; apply Exists.intro; apply And.intro; (focus ((repeat (first | exact LVs.nil | (apply LVs.sl; (with_reducible repeat (first | exact Has.head | apply Has.tail)); exact inferInstance; exact rfl))); done)); refine ⟨_, eqIntS_c e e (by omega), (by intro r H h; first | (obtain ⟨rfl, rfl⟩ := h; exact ⟨inferInstance, inferInstance⟩) | (obtain ⟨_, rfl, rfl⟩ := h; exact ⟨inferInstance, inferInstance⟩) | (obtain ⟨_, _, rfl, rfl⟩ := h; exact ⟨inferInstance, inferInstance⟩) | (obtain ⟨_, _, rfl, rfl, _⟩ := h; exact ⟨inferInstance, inferInstance⟩)), ?_⟩; rintro _ _ ⟨rfl, rfl⟩; refine RL.nm ?_) | ((with_reducible show RH _ _ _ ⟨_, .call ⟨.value (.func 33), _, _⟩, _, _, _, _⟩ _ _ _ _); refine RH.cW Try.call33 ?_; refine ⟨_, _, _, (by repeat (first | exact Pick.nil | (apply Pick.cons; (with_reducible repeat (first | exact Rem.head | apply Rem.tail))))), markIntS_s _ e _ (by omega) (by omega), ?_⟩; rintro _ _ ⟨y2, k2, rfl, rfl, hmA2, hmB2⟩; refine RL.nm ?_) | ((with_reducible show RH _ _ _ _ _ _ _ _); first | refine RH.val (hK := ?_) | refine RH.upd (hK := ?_)) | (with_reducible show RL _ _ _ (_ :: _) _ _ _; first | refine RL.guardYes rfl rfl rfl rfl ?_ | refine RL.guardNoS rfl rfl rfl rfl rfl rfl ?_ | refine RL.splitD rfl rfl rfl (fun h => ?_) (fun h => ?_) | refine RL.splitND rfl rfl rfl (fun h => ?_) (fun h => ?_)) | (with_reducible first | refine Run.seq ?_ | refine Run.region ?_ | refine Run.skip ?_ | refine Run.ret ?_) | (with_reducible show Run _ _ (.cond _ _ _) _ _ _; first | refine Run.condT rfl ?_ | refine Run.condF rfl ?_ | refine Run.condD rfl (fun h => ?_) (fun h => ?_) | refine Run.condND rfl (fun h => ?_) (fun h => ?_)) | (with_reducible first | refine seqN (K := Run _ _ _ _) ?_ | refine seqR ?_))
    all_goals first
      | (refine ⟨eA, _, [], resA, .ch .nil, ?_⟩; exact ⟨rfl, rfl⟩)
      | (exfalso; omega)
      | (exfalso; simp_all; done)
      | skip
theorem law_c (a : Int × (List (Int × (List Int)))) (k : Int) (e : List Int) (g0 : (InR a.1) ∧ (a.2.length ≤ 9223372036854775807 ∧ ∀ y0 ∈ a.2, (InR y0.1) ∧ (y0.2.length ≤ 9223372036854775807 ∧ ∀ y1 ∈ y0.2, InR y1))) (g1 : InR k) (g2 : e.length ≤ 9223372036854775807 ∧ ∀ y0 ∈ e, InR y0) :
    Spec Try.prog 9 [vagg [vint a.1, vsl 2 (fun y : Int × (List Int) => [vint y.1, vsl 1 (fun x : Int => [vint x]) y.2]) a.2], vint k, vsl 1 (fun x : Int => [vint x]) e] [] (fun r S' => r = vbool true ∧ S' = []) := by
  obtain ⟨o, hoo⟩ := free_ex a.1 a.2 k
  refine law_g a k e ((fmapV a.1 k e (genO (rankB a.1 a.2 k) o)).getD []) ((fmapV a.1 k e (genO (rankB a.1 a.2 k) o)).isSome) g0 g1 g2 ?_
  intro hS_a hS_e
  exact ⟨specFmap_c a.1 a.2 k e o hoo (by omega) (opsLen_of hS_a) (by omega), implFmap_c a.1 a.2 k e o hoo (by omega) (opsLen_of hS_a) (by omega), Nat.le_trans (fmap_small hoo) (by decide)⟩
end Go.Proofs.Ytejeeokjjbiadaa
