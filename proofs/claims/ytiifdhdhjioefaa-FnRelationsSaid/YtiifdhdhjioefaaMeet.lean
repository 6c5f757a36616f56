/- The meet of two relations: spec.MeetRelations, impl.MeetRelations: the same answer. Proved for this program; conditions: lengths below 2^42. -/
import Derived.Test.YtiifdhdhjioefaaHas
import Derived.Test.YtiifdhdhjioefaaKeys
import Derived.Test.YtiifdhdhjioefaaOwn
namespace Go.Proofs.Ytiifdhdhjioefaa
open Go Go.Proofs
set_option linter.unusedVariables false

def meetOk (n a : Int) (xs : List (List Int)) (b : Int) (ys : List (List Int)) : Bool := relOk n a xs && relOk n b ys && decide (a = b)
def meetL (xs ys : List (List Int)) : List (List Int) := xs.filter fun t => decide (t ∈ ys)
def meetAr (n a : Int) (xs : List (List Int)) (b : Int) (ys : List (List Int)) : Int := if meetOk n a xs b ys then a else 0
def meetRows (n a : Int) (xs : List (List Int)) (b : Int) (ys : List (List Int)) : List (List Int) := if meetOk n a xs b ys then meetL xs ys else []
abbrev MeetRes (n a : Int) (xs : List (List Int)) (b : Int) (ys : List (List Int)) (r : VP) (S' : List HP) : Prop :=
  ∃ s : Sv, r = vtup [vagg [vint (meetAr n a xs b ys), vlit (vsv s)], vbool (meetOk n a xs b ys)] ∧ S' = [hsl (tS tInt) (vsv s) (meetRows n a xs b ys)]
theorem meetRes_no {n a : Int} {xs : List (List Int)} {b : Int} {ys : List (List Int)} (h : meetOk n a xs b ys = false) : MeetRes n a xs b ys (vtup [vagg [vint 0, vlit (.slice none 0 0)], vbool false]) [hsl (tS tInt) (vsv (none, 0, 0)) []] :=
  ⟨(none, 0, 0), by rw [meetAr, h]; rfl, by rw [meetRows, h]; rfl⟩
theorem meetRes_yes {n a : Int} {xs : List (List Int)} {b : Int} {ys : List (List Int)} (h : meetOk n a xs b ys = true) (s : Sv) : MeetRes n a xs b ys (vtup [vagg [vint a, vlit (vsv s)], vbool true]) [hsl (tS tInt) (vsv s) (meetL xs ys)] :=
  ⟨s, by rw [meetAr, h]; rfl, by rw [meetRows, h]; rfl⟩
theorem meetOk_at {n a : Int} {xs : List (List Int)} {b : Int} {ys : List (List Int)} (h : meetOk n a xs b ys = true) : relOk n a xs = true ∧ relOk n b ys = true ∧ a = b := by
  simp only [meetOk, Bool.and_eq_true, decide_eq_true_eq] at h; exact ⟨h.1.1, h.1.2, h.2⟩
theorem relOk_rel' {n a : Int} {xs : List (List Int)} (h : relOk n a xs = true) : (1 ≤ n ∧ n ≤ 8) ∧ relB n a xs = true := by simp only [relOk, Bool.and_eq_true, decide_eq_true_eq] at h; exact h
theorem meetL_in {xs ys : List (List Int)} {m : Nat} (h : m < xs.length) (hm : xs[m] ∈ ys) : meetL (xs.take (m + 1)) ys = meetL (xs.take m) ys ++ [xs[m]] := by
  rw [meetL, List.take_add_one, List.getElem?_eq_getElem h, List.filter_append, Option.toList_some, List.filter_cons_of_pos (by simpa using hm)]; rfl
theorem meetL_out {xs ys : List (List Int)} {m : Nat} (h : m < xs.length) (hm : xs[m] ∉ ys) : meetL (xs.take (m + 1)) ys = meetL (xs.take m) ys := by
  rw [meetL, List.take_add_one, List.getElem?_eq_getElem h, List.filter_append, Option.toList_some, List.filter_cons_of_neg (by simpa using hm), List.filter_nil, List.append_nil]; rfl
theorem meetL_le (xs ys : List (List Int)) : (meetL xs ys).length ≤ xs.length := List.length_filter_le _ _
theorem rel_small {n a : Int} {xs : List (List Int)} (h : relB n a xs = true) : ∀ t ∈ xs, t.length ≤ 3 := fun t ht => by
  have h1 := relB_len2 h t ht
  have h2 := relB_ar h
  omega
theorem rel_bytes {n a : Int} {xs : List (List Int)} (hn : n ≤ 8) (h : relB n a xs = true) : ∀ t ∈ xs, ∀ x ∈ t, 0 ≤ x ∧ x < 65536 := fun t ht x hx => by
  have h1 := relB_el h t ht
  simp only [elB, List.all_eq_true, decide_eq_true_eq] at h1
  have := h1 x hx; omega

set_option maxRecDepth 10000 in
set_option maxHeartbeats 1000000 in
theorem specMeet_c (n a b : Int) (xs ys : List (List Int)) (hl : xs.length ≤ 4398046511104) (hr : ∀ t ∈ xs, t.length ≤ 4611686018427387904) (hl2 : ys.length ≤ 4398046511104) (hr2 : ∀ t ∈ ys, t.length ≤ 4611686018427387904) :
    Spec Try.prog 16 [vint n, vagg [vint a, vsl 1 (fun t : List Int => [vsl 1 (fun x : Int => [vint x]) t]) xs], vagg [vint b, vsl 1 (fun t : List Int => [vsl 1 (fun x : Int => [vint x]) t]) ys]] [] (MeetRes n a xs b ys) := by
  refine Spec.of_run2 (n := 58) Try.func16 rfl Try.results16 Try.ntmps16 rfl ?_
  by_cases hg : meetOk n a xs b ys = true
  · obtain ⟨h1, h2, rfl⟩ := meetOk_at hg
    have hlen := relB_len2 (relOk_rel' h2).2
    have hs := relB_sorted (relOk_rel' h2).2
    have hk := rel_small (relOk_rel' h1).2
    repeat' (first | (with_reducible first | refine RL.done ?_ | refine RL.app0 ?_) | (with_reducible refine RL.wanted ?_ ?_; exact rfl) | ((with_reducible show RH _ _ _ ⟨some 4, .box _ _, _, _, _, _⟩ _ _ _ _); (refine RH.boxAgg rfl rfl ?_; rintro _ _ ⟨b4, rfl, rfl⟩)) | ((with_reducible show RH _ _ _ ⟨some 5, .box _ _, _, _, _, _⟩ _ _ _ _); (refine RH.boxAgg rfl rfl ?_; rintro _ _ ⟨b5, rfl, rfl⟩)) | ((with_reducible show RH _ _ _ ⟨some 6, .alloc _, _, _, _, _⟩ _ _ _ _); refine RH.alloc rfl ?_; rintro _ _ ⟨b6, rfl, rfl⟩) | ((with_reducible show RH _ _ _ ⟨some 30, .buildSlice _ _ _, _, _, _, _⟩ _ _ _ _); (refine RH.eff rfl rfl (EOpS.e (EOpS.slitV (by ((repeat (first | exact Elts.nil | apply Elts.one1 rfl | apply Elts.agg2 rfl)); done)) (by simp) rfl rfl)) ?_; rintro _ _ ⟨b30, rfl, rfl⟩)) | ((with_reducible show RH _ _ _ ⟨some 8, .alloc _, _, _, _, _⟩ _ _ _ _); refine RH.alloc rfl ?_; rintro _ _ ⟨b8, rfl, rfl⟩) | ((with_reducible show RH _ _ _ ⟨_, .call ⟨.value (.func 70), _, _⟩, _, _, _, _⟩ _ _ _ _); refine RH.cP Try.call70 ?_; refine ⟨_, l13Takes_c _ _ _ (by omega) (by assumption), ?_⟩; rintro _ _ ⟨rfl, rfl⟩) | ((with_reducible show RH _ _ _ _ _ _ _ _); first | refine RH.val (hK := ?_) | refine RH.upd (hK := ?_)) | (with_reducible show RL _ _ _ (_ :: _) _ _ _; first | refine RL.guardYes rfl rfl rfl rfl ?_ | refine RL.guardNoS rfl rfl rfl rfl rfl rfl ?_ | refine RL.splitNB rfl rfl rfl (fun h => ?_) (fun h => ?_)) | (with_reducible first | refine Run.seq ?_ | refine Run.region ?_ | refine Run.block ?_ | refine Run.skip ?_ | refine Run.ret ?_) | (with_reducible show Run _ _ (.cond _ _ _) _ _ _; first | refine Run.condT rfl ?_ | refine Run.condD rfl (fun h => ?_) (fun h => ?_)) | (with_reducible first | refine seqN (K := Run _ _ _ _) ?_ | refine seqR ?_))
    all_goals first
      | (exfalso; omega)
      | (exfalso; simp_all; done)
      | skip
    refine Run.sent (T := [hsl (tS tInt) (vsv (some ⟨b30, 0, none⟩, 0, 0)) [], hcells b8 [vint a, vsb b30 0 0], hcells b6 [vint 0, vlit (.slice none 0 0)], hcells b5 [vint a, vsl 1 (fun t : List Int => [vsl 1 (fun x : Int => [vint x]) t]) ys], hcells b4 [vint a, vsl 1 (fun t : List Int => [vsl 1 (fun x : Int => [vint x]) t]) xs]])
      ((SEnt.pick (.cons (.tail .head) .nil)).trans (SEnt.packNil (tS tInt) rfl)) ?_
    refine Run.loop (α := Nat × Sv) (fun x => [(4, vptr b4 0), (5, vptr b5 0), (6, vptr b6 0), (8, vptr b8 0), (9, vint (x.1 : Int))])
      (fun x => [hsl (tS tInt) (vsv x.2) (meetL (xs.take x.1) ys), hcells b8 [vint a, vlit (vsv x.2)], hcells b6 [vint 0, vlit (.slice none 0 0)], hcells b5 [vint a, vsl 1 (fun t : List Int => [vsl 1 (fun x : Int => [vint x]) t]) ys], hcells b4 [vint a, vsl 1 (fun t : List Int => [vsl 1 (fun x : Int => [vint x]) t]) xs]])
      (fun x => x.1 ≤ xs.length) (fun x => xs.length - x.1) (0, (some ⟨b30, 0, none⟩, 0, 0)) (by simp) (Ent.of slA .refl) ?_
    rintro ⟨m, s⟩ hm
    dsimp only at hm ⊢
    have hle := meetL_le (xs.take m) ys
    have hle2 : (xs.take m).length = m := by rw [List.length_take]; omega
    repeat' (first | (with_reducible first | refine RL.done ?_ | refine RD.app0 ?_ | refine RD.app1 ?_) | (with_reducible refine RL.wanted ?_ ?_; exact rfl) | ((with_reducible show Run _ _ (.region 7 _ true) _ _ _); refine Run.regionD (fun i => false) rfl ?_; change RD _ _ _ _ _ _ 7 (dm 7 0) _ _) | ((with_reducible show RD _ _ 7 _ _ _ _ _ _ _); first | ((with_reducible show RD _ _ _ _ _ _ _ (dm 7 0) _ _); refine RD.tk 0 (dm 7 64) (dm 7 1) (hK := ?_)) | ((with_reducible show RD _ _ _ _ _ _ _ (dm 7 1) _ _); refine RD.tk 1 (dm 7 116) (dm 7 3) (hK := ?_)) | ((with_reducible show RD _ _ _ _ _ _ _ (dm 7 3) _ _); refine RD.tk 2 (dm 7 112) (dm 7 7) (hK := ?_)) | ((with_reducible show RD _ _ _ _ _ _ _ (dm 7 7) _ _); refine RD.tk 3 (dm 7 112) (dm 7 15) (hK := ?_)) | ((with_reducible show RD _ _ _ _ _ _ _ (dm 7 15) _ _); refine RD.tk 4 (dm 7 96) (dm 7 31) (hK := ?_)) | ((with_reducible show RD _ _ _ _ _ _ _ (dm 7 31) _ _); refine RD.tk 5 (dm 7 64) (dm 7 63) (hK := ?_)) | ((with_reducible show RD _ _ _ _ _ _ _ (dm 7 63) _ _); refine RD.a1 6 ?_) | ((with_reducible show RD _ _ _ _ _ _ 0 _ _ _); refine RD.done (by kernel_rfl) ?_)) | ((with_reducible show RO _ _ 7 _ _ _ _ _ _ _ _); ((with_reducible show RO _ _ _ _ _ _ _ (dm 7 63) 6 _ _); (refine RO.cP (dm 7 127) Try.call78 ?_; refine ⟨_, l13Has_c _ _ _ (by omega) (hr _ (List.getElem_mem _)) hlen hs, ?_⟩; rintro _ _ ⟨rfl, rfl⟩))) | ((with_reducible show Run _ _ (.region 8 _ true) _ _ _); refine Run.regionD (fun i => i == 9 || i == 11) rfl ?_; change RD _ _ _ _ _ _ 12 (dm 12 0) _ _) | ((with_reducible show RD _ _ 8 _ _ _ _ _ _ _); first | ((with_reducible show RD _ _ _ _ _ _ _ (dm 12 0) _ _); refine RD.tk 0 (dm 12 3586) (dm 12 1) (hK := ?_)) | ((with_reducible show RD _ _ _ _ _ _ _ (dm 12 1) _ _); refine RD.tk 1 (dm 12 3584) (dm 12 3) (hK := ?_)) | ((with_reducible show RD _ _ _ _ _ _ _ (dm 12 3) _ _); refine RD.tk 2 (dm 12 4072) (dm 12 7) (hK := ?_)) | ((with_reducible show RD _ _ _ _ _ _ _ (dm 12 7) _ _); refine RD.tk 3 (dm 12 4064) (dm 12 15) (hK := ?_)) | ((with_reducible show RD _ _ _ _ _ _ _ (dm 12 15) _ _); refine RD.tk 4 (dm 12 4064) (dm 12 31) (hK := ?_)) | ((with_reducible show RD _ _ _ _ _ _ _ (dm 12 31) _ _); refine RD.tk 5 (dm 12 4032) (dm 12 63) (hK := ?_)) | ((with_reducible show RD _ _ _ _ _ _ _ (dm 12 63) _ _); refine RD.tk 6 (dm 12 3968) (dm 12 127) (hK := ?_)) | ((with_reducible show RD _ _ _ _ _ _ _ (dm 12 127) _ _); refine RD.a1 7 ?_) | ((with_reducible show RD _ _ _ _ _ _ _ (dm 12 255) _ _); refine RD.a1 8 ?_) | ((with_reducible show RD _ _ _ _ _ _ _ (dm 12 511) _ _); refine RD.a1 9 ?_) | ((with_reducible show RD _ _ _ _ _ _ _ (dm 12 1023) _ _); refine RD.tk 10 (dm 12 2048) (dm 12 2047) (hK := ?_)) | ((with_reducible show RD _ _ _ _ _ _ _ (dm 12 2047) _ _); refine RD.a1 11 ?_) | ((with_reducible show RD _ _ _ _ _ _ 0 _ _ _); refine RD.done (by kernel_rfl) ?_)) | ((with_reducible show RO _ _ 8 _ _ _ _ _ _ _ _); first | ((with_reducible show RO _ _ _ _ _ _ _ (dm 12 127) 7 _ _); (refine RO.cP (dm 12 255) Try.call79 ?_; refine ⟨_, l1Own_c _ (Nat.le_trans (hk _ (List.getElem_mem _)) (by decide)), ?_⟩; rintro _ _ ⟨s1, rfl, rfl⟩)) | ((with_reducible show RO _ _ _ _ _ _ _ (dm 12 255) 8 _ _); (refine RO.eS (dm 12 511) (hv := by show EOpS _ _ _ _ ⟨_, .buildSlice _ _ _, _, _, _, _⟩ _; exact EOpS.slitV (by ((repeat (first | exact Elts.nil | apply Elts.one1 rfl | apply Elts.agg2 rfl)); done)) (by simp) rfl rfl) (h := ?_); rintro _ _ ⟨b54, rfl, rfl⟩)) | ((with_reducible show RO _ _ _ _ _ _ _ (dm 12 511) 9 _ _); (refine RO.h (dm 12 1023) ?_; show RH _ _ _ ⟨_, _, _, _, _, _⟩ _ _ _ _)) | ((with_reducible show RO _ _ _ _ _ _ _ (dm 12 2047) 11 _ _); (refine RO.h (dm 12 4095) ?_; show RH _ _ _ ⟨_, _, _, _, _, _⟩ _ _ _ _))) | ((with_reducible show RH _ _ _ ⟨_, .call ⟨.builtin .append, _, _⟩, _, _, _, _⟩ _ _ _ _); (refine RH.appR rfl rfl rfl (by repeat (first | exact Pick.nil | (apply Pick.cons; (with_reducible repeat (first | exact Rem.head | apply Rem.tail))))) (by first | omega | (simp; omega)) (by first | omega | (simp; omega)) ?_); rintro _ _ ⟨s, rfl, rfl⟩) | ((with_reducible show RH _ _ _ _ _ _ _ _); first | refine RH.val (hK := ?_) | refine RH.upd (hK := ?_)) | (with_reducible first | refine Run.seq ?_ | refine Run.region ?_ | refine Run.block ?_ | refine Run.skip ?_ | refine Run.exit ?_ | refine Run.ret ?_) | (with_reducible show Run _ _ (.cond _ _ _) _ _ _; refine Run.condD rfl (fun h => ?_) (fun h => ?_)) | (with_reducible first | refine seqN (K := Run _ _ _ _) ?_ | refine seqE ?_ | refine blockN ?_ | refine blockE ?_))
    · with_reducible refine seqN ?_
      exact ⟨(m + 1, _), by simp; omega, by simp; omega, Ent.of slA (by dsimp only; exact .cons .head (by rw [meetL_in (by omega) (by assumption)]) chA)⟩
    · with_reducible refine seqN ?_
      exact ⟨(m + 1, s), by simp; omega, by simp; omega, Ent.of slA (by dsimp only; exact .cons .head (by rw [meetL_out (by omega) (by assumption)]) chA)⟩
    · obtain rfl : m = xs.length := by omega
      refine ⟨eA, _, [hsl (tS tInt) (vsv s) (meetL xs ys)], resA, ?_, ?_⟩
      · exact SEnt.ch (.cons .head (by rw [List.take_length]) .nil)
      · exact meetRes_yes hg s
  · repeat' (first | (with_reducible first | refine RL.done ?_ | refine RL.app0 ?_) | (with_reducible refine RL.wanted ?_ ?_; exact rfl) | ((with_reducible show RH _ _ _ ⟨some 4, .box _ _, _, _, _, _⟩ _ _ _ _); (refine RH.boxAgg rfl rfl ?_; rintro _ _ ⟨b4, rfl, rfl⟩)) | ((with_reducible show RH _ _ _ ⟨some 5, .box _ _, _, _, _, _⟩ _ _ _ _); (refine RH.boxAgg rfl rfl ?_; rintro _ _ ⟨b5, rfl, rfl⟩)) | ((with_reducible show RH _ _ _ ⟨some 6, .alloc _, _, _, _, _⟩ _ _ _ _); refine RH.alloc rfl ?_; rintro _ _ ⟨b6, rfl, rfl⟩) | ((with_reducible show RH _ _ _ ⟨some 30, .buildSlice _ _ _, _, _, _, _⟩ _ _ _ _); (refine RH.eff rfl rfl (EOpS.e (EOpS.slitV (by ((repeat (first | exact Elts.nil | apply Elts.one1 rfl | apply Elts.agg2 rfl)); done)) (by simp) rfl rfl)) ?_; rintro _ _ ⟨b30, rfl, rfl⟩)) | ((with_reducible show RH _ _ _ ⟨some 8, .alloc _, _, _, _, _⟩ _ _ _ _); refine RH.alloc rfl ?_; rintro _ _ ⟨b8, rfl, rfl⟩) | ((with_reducible show RH _ _ _ ⟨_, .call ⟨.value (.func 70), _, _⟩, _, _, _, _⟩ _ _ _ _); refine RH.cP Try.call70 ?_; refine ⟨_, l13Takes_c _ _ _ (by omega) (by assumption), ?_⟩; rintro _ _ ⟨rfl, rfl⟩) | ((with_reducible show RH _ _ _ _ _ _ _ _); first | refine RH.val (hK := ?_) | refine RH.upd (hK := ?_)) | (with_reducible show RL _ _ _ (_ :: _) _ _ _; first | refine RL.guardYes rfl rfl rfl rfl ?_ | refine RL.guardNoS rfl rfl rfl rfl rfl rfl ?_ | refine RL.splitNB rfl rfl rfl (fun h => ?_) (fun h => ?_)) | (with_reducible first | refine Run.seq ?_ | refine Run.region ?_ | refine Run.block ?_ | refine Run.skip ?_ | refine Run.ret ?_) | (with_reducible show Run _ _ (.cond _ _ _) _ _ _; first | refine Run.condT rfl ?_ | refine Run.condD rfl (fun h => ?_) (fun h => ?_)) | (with_reducible first | refine seqN (K := Run _ _ _ _) ?_ | refine seqR ?_))
    all_goals first
      | (refine ⟨eA, _, [hsl (tS tInt) (vsv (none, 0, 0)) []], resA, ?_, ?_⟩
         · exact (SEnt.ch .nil).trans (SEnt.nil _ _)
         · exact meetRes_no (by simpa using hg))
      | (exfalso; apply hg; simp_all [meetOk]; done)

set_option maxRecDepth 10000 in
set_option maxHeartbeats 1000000 in
theorem implMeet_c (n a b : Int) (xs ys : List (List Int)) (hl : xs.length ≤ 4398046511104) (hr : ∀ t ∈ xs, t.length ≤ 4611686018427387904) (hl2 : ys.length ≤ 4398046511104) (hr2 : ∀ t ∈ ys, t.length ≤ 4611686018427387904) :
    Spec Try.prog 15 [vint n, vagg [vint a, vsl 1 (fun t : List Int => [vsl 1 (fun x : Int => [vint x]) t]) xs], vagg [vint b, vsl 1 (fun t : List Int => [vsl 1 (fun x : Int => [vint x]) t]) ys]] [] (MeetRes n a xs b ys) := by
  refine Spec.of_run2 (n := 55) Try.func15 rfl Try.results15 Try.ntmps15 rfl ?_
  by_cases hg : meetOk n a xs b ys = true
  · obtain ⟨h1, h2, rfl⟩ := meetOk_at hg
    have hB2 := (relOk_rel' h2).2
    have hk := rel_small (relOk_rel' h1).2
    have hk2 : ∀ t ∈ ys, t.length ≤ 1048576 := fun t ht => Nat.le_trans (rel_small hB2 t ht) (by decide)
    have hby := rel_bytes (relOk_rel' h1).1.2 (relOk_rel' h1).2
    have hby2 := rel_bytes (relOk_rel' h1).1.2 hB2
    repeat' (first | (with_reducible first | refine RL.done ?_ | refine RL.app0 ?_ | refine RL.app1 ?_) | (with_reducible refine RL.wanted ?_ ?_; exact rfl) | ((with_reducible show RH _ _ _ ⟨some 4, .box _ _, _, _, _, _⟩ _ _ _ _); (refine RH.boxAgg rfl rfl ?_; rintro _ _ ⟨b4, rfl, rfl⟩)) | ((with_reducible show RH _ _ _ ⟨some 5, .box _ _, _, _, _, _⟩ _ _ _ _); (refine RH.boxAgg rfl rfl ?_; rintro _ _ ⟨b5, rfl, rfl⟩)) | ((with_reducible show RH _ _ _ ⟨some 6, .alloc _, _, _, _, _⟩ _ _ _ _); refine RH.alloc rfl ?_; rintro _ _ ⟨b6, rfl, rfl⟩) | ((with_reducible show RH _ _ _ ⟨some 9, .alloc _, _, _, _, _⟩ _ _ _ _); refine RH.alloc rfl ?_; rintro _ _ ⟨b9, rfl, rfl⟩) | ((with_reducible show RH _ _ _ ⟨_, .call ⟨.value (.func 67), _, _⟩, _, _, _, _⟩ _ _ _ _); refine RH.cP Try.call67 ?_; refine ⟨_, hasRelation_c _ _ _ (by omega) (by assumption), ?_⟩; rintro _ _ ⟨rfl, rfl⟩) | ((with_reducible show RH _ _ _ ⟨_, .call ⟨.value (.func 68), _, _⟩, _, _, _, _⟩ _ _ _ _); refine RH.cP Try.call68 ?_; refine ⟨_, isRelation_c _ _ _ (by omega) (by assumption), ?_⟩; rintro _ _ ⟨rfl, rfl⟩) | ((with_reducible show RH _ _ _ ⟨_, .call ⟨.value (.func 75), _, _⟩, _, _, _, _⟩ _ _ _ _); refine RH.cP Try.call75 ?_; refine ⟨_, tupleSet_c _ _ (by omega) hk2, ?_⟩; rintro _ _ ⟨bs, rfl, rfl⟩) | ((with_reducible show RH _ _ _ _ _ _ _ _); first | refine RH.val (hK := ?_) | refine RH.upd (hK := ?_)) | (with_reducible show RL _ _ _ (_ :: _) _ _ _; first | refine RL.guardYes rfl rfl rfl rfl ?_ | refine RL.guardNoS rfl rfl rfl rfl rfl rfl ?_ | refine RL.splitNB rfl rfl rfl (fun h => ?_) (fun h => ?_)) | (with_reducible first | refine Run.seq ?_ | refine Run.region ?_ | refine Run.block ?_ | refine Run.skip ?_ | refine Run.ret ?_) | (with_reducible show Run _ _ (.cond _ _ _) _ _ _; first | refine Run.condT rfl ?_ | refine Run.condD rfl (fun h => ?_) (fun h => ?_)) | (with_reducible first | refine seqN (K := Run _ _ _ _) ?_ | refine seqR ?_))
    all_goals first
      | (exfalso; omega)
      | (exfalso; simp_all; done)
      | skip
    refine Run.sent (T := [hsl (tS tInt) (vsv (none, 0, 0)) [], hcells b9 [vint a, vlit (.slice none 0 0)], hset bs (ys.map keyS), hcells b6 [vint 0, vlit (.slice none 0 0)]])
      ((SEnt.ch chA).trans (SEnt.nil _ _)) ?_
    refine Run.loop (α := Nat × Sv) (fun x => [(6, vptr b6 0), (8, vmap bs), (9, vptr b9 0), (36, vsl 1 (fun t : List Int => [vsl 1 (fun x : Int => [vint x]) t]) xs), (37, vint (xs.length : Int)), (38, vint (x.1 : Int))])
      (fun x => [hsl (tS tInt) (vsv x.2) (meetL (xs.take x.1) ys), hcells b9 [vint a, vlit (vsv x.2)], hset bs (ys.map keyS), hcells b6 [vint 0, vlit (.slice none 0 0)]])
      (fun x => x.1 ≤ xs.length) (fun x => xs.length - x.1) (0, (none, 0, 0)) (by simp) (Ent.of slA .refl) ?_
    rintro ⟨m, s⟩ hm
    dsimp only at hm ⊢
    have hle := meetL_le (xs.take m) ys
    have hle2 : (xs.take m).length = m := by rw [List.length_take]; omega
    repeat' (first | (with_reducible first | refine RL.done ?_ | refine RL.app0 ?_ | refine RD.app1 ?_) | (with_reducible refine RL.wanted ?_ ?_; exact rfl) | ((with_reducible show Run _ _ (.region 9 _ true) _ _ _); refine Run.regionD (fun i => i == 5 || i == 7) rfl ?_; change RD _ _ _ _ _ _ 8 (dm 8 0) _ _) | ((with_reducible show RD _ _ 9 _ _ _ _ _ _ _); first | ((with_reducible show RD _ _ _ _ _ _ _ (dm 8 0) _ _); refine RD.tk 0 (dm 8 226) (dm 8 1) (hK := ?_)) | ((with_reducible show RD _ _ _ _ _ _ _ (dm 8 1) _ _); refine RD.tk 1 (dm 8 224) (dm 8 3) (hK := ?_)) | ((with_reducible show RD _ _ _ _ _ _ _ (dm 8 3) _ _); refine RD.tk 2 (dm 8 248) (dm 8 7) (hK := ?_)) | ((with_reducible show RD _ _ _ _ _ _ _ (dm 8 7) _ _); refine RD.a1 3 ?_) | ((with_reducible show RD _ _ _ _ _ _ _ (dm 8 15) _ _); refine RD.a1 4 ?_) | ((with_reducible show RD _ _ _ _ _ _ _ (dm 8 31) _ _); refine RD.a1 5 ?_) | ((with_reducible show RD _ _ _ _ _ _ _ (dm 8 63) _ _); refine RD.tk 6 (dm 8 128) (dm 8 127) (hK := ?_)) | ((with_reducible show RD _ _ _ _ _ _ _ (dm 8 127) _ _); refine RD.a1 7 ?_) | ((with_reducible show RD _ _ _ _ _ _ 0 _ _ _); refine RD.done (by kernel_rfl) ?_)) | ((with_reducible show RO _ _ 9 _ _ _ _ _ _ _ _); first | ((with_reducible show RO _ _ _ _ _ _ _ (dm 8 7) 3 _ _); (refine RO.cP (dm 8 15) Try.call77 ?_; refine ⟨_, clone_c _ (Nat.le_trans (hk _ (List.getElem_mem _)) (by decide)), ?_⟩; rintro _ _ ⟨s1, rfl, rfl⟩)) | ((with_reducible show RO _ _ _ _ _ _ _ (dm 8 15) 4 _ _); (refine RO.eS (dm 8 31) (hv := by show EOpS _ _ _ _ ⟨_, .buildSlice _ _ _, _, _, _, _⟩ _; exact EOpS.slitV (by ((repeat (first | exact Elts.nil | apply Elts.one1 rfl | apply Elts.agg2 rfl)); done)) (by simp) rfl rfl) (h := ?_); rintro _ _ ⟨b50, rfl, rfl⟩)) | ((with_reducible show RO _ _ _ _ _ _ _ (dm 8 31) 5 _ _); (refine RO.h (dm 8 63) ?_; show RH _ _ _ ⟨_, _, _, _, _, _⟩ _ _ _ _)) | ((with_reducible show RO _ _ _ _ _ _ _ (dm 8 127) 7 _ _); (refine RO.h (dm 8 255) ?_; show RH _ _ _ ⟨_, _, _, _, _, _⟩ _ _ _ _))) | ((with_reducible show RH _ _ _ ⟨_, .call ⟨.value (.func 76), _, _⟩, _, _, _, _⟩ _ _ _ _); refine RH.cP Try.call76 ?_; refine ⟨_, keyOf_c _ (Nat.le_trans (hk _ (List.getElem_mem _)) (by decide)), ?_⟩; rintro _ _ ⟨rfl, rfl⟩) | ((with_reducible show RH _ _ _ ⟨_, .call ⟨.builtin .append, _, _⟩, _, _, _, _⟩ _ _ _ _); (refine RH.appR rfl rfl rfl (by repeat (first | exact Pick.nil | (apply Pick.cons; (with_reducible repeat (first | exact Rem.head | apply Rem.tail))))) (by first | omega | (simp; omega)) (by first | omega | (simp; omega)) ?_); rintro _ _ ⟨s, rfl, rfl⟩) | ((with_reducible show RH _ _ _ _ _ _ _ _); first | refine RH.val (hK := ?_) | refine RH.upd (hK := ?_)) | (with_reducible first | refine Run.seq ?_ | refine Run.region ?_ | refine Run.block ?_ | refine Run.skip ?_ | refine Run.exit ?_ | refine Run.ret ?_) | (with_reducible show Run _ _ (.cond _ _ _) _ _ _; refine Run.condD rfl (fun h => ?_) (fun h => ?_)) | (with_reducible first | refine seqN (K := Run _ _ _ _) ?_ | refine seqE ?_ | refine blockN ?_ | refine blockE ?_))
    · with_reducible refine seqN ?_
      have h9 : keyS xs[m] ∈ ys.map keyS := by assumption
      rw [keyS_mem (hby _ (List.getElem_mem _)) hby2] at h9
      exact ⟨(m + 1, _), by simp; omega, by simp; omega, Ent.of slA (by dsimp only; exact .cons .head (by rw [meetL_in (by omega) h9]) chA)⟩
    · with_reducible refine seqN ?_
      have h9 : ¬ keyS xs[m] ∈ ys.map keyS := by assumption
      rw [keyS_mem (hby _ (List.getElem_mem _)) hby2] at h9
      exact ⟨(m + 1, s), by simp; omega, by simp; omega, Ent.of slA (by dsimp only; exact .cons .head (by rw [meetL_out (by omega) h9]) chA)⟩
    · obtain rfl : m = xs.length := by omega
      refine ⟨eA, _, [hsl (tS tInt) (vsv s) (meetL xs ys)], resA, ?_, ?_⟩
      · exact SEnt.ch (.cons .head (by rw [List.take_length]) .nil)
      · exact meetRes_yes hg s
  · repeat' (first | (with_reducible first | refine RL.done ?_ | refine RL.app0 ?_) | (with_reducible refine RL.wanted ?_ ?_; exact rfl) | ((with_reducible show RH _ _ _ ⟨some 4, .box _ _, _, _, _, _⟩ _ _ _ _); (refine RH.boxAgg rfl rfl ?_; rintro _ _ ⟨b4, rfl, rfl⟩)) | ((with_reducible show RH _ _ _ ⟨some 5, .box _ _, _, _, _, _⟩ _ _ _ _); (refine RH.boxAgg rfl rfl ?_; rintro _ _ ⟨b5, rfl, rfl⟩)) | ((with_reducible show RH _ _ _ ⟨some 6, .alloc _, _, _, _, _⟩ _ _ _ _); refine RH.alloc rfl ?_; rintro _ _ ⟨b6, rfl, rfl⟩) | ((with_reducible show RH _ _ _ ⟨_, .call ⟨.value (.func 67), _, _⟩, _, _, _, _⟩ _ _ _ _); refine RH.cP Try.call67 ?_; refine ⟨_, hasRelation_c _ _ _ (by omega) (by assumption), ?_⟩; rintro _ _ ⟨rfl, rfl⟩) | ((with_reducible show RH _ _ _ ⟨_, .call ⟨.value (.func 68), _, _⟩, _, _, _, _⟩ _ _ _ _); refine RH.cP Try.call68 ?_; refine ⟨_, isRelation_c _ _ _ (by omega) (by assumption), ?_⟩; rintro _ _ ⟨rfl, rfl⟩) | ((with_reducible show RH _ _ _ _ _ _ _ _); first | refine RH.val (hK := ?_) | refine RH.upd (hK := ?_)) | (with_reducible show RL _ _ _ (_ :: _) _ _ _; first | refine RL.guardYes rfl rfl rfl rfl ?_ | refine RL.guardNoS rfl rfl rfl rfl rfl rfl ?_ | refine RL.splitNB rfl rfl rfl (fun h => ?_) (fun h => ?_)) | (with_reducible first | refine Run.seq ?_ | refine Run.region ?_ | refine Run.skip ?_ | refine Run.ret ?_) | (with_reducible show Run _ _ (.cond _ _ _) _ _ _; first | refine Run.condT rfl ?_ | refine Run.condD rfl (fun h => ?_) (fun h => ?_)) | (with_reducible first | refine seqN (K := Run _ _ _ _) ?_ | refine seqR ?_))
    all_goals first
      | (refine ⟨eA, _, [hsl (tS tInt) (vsv (none, 0, 0)) []], resA, ?_, ?_⟩
         · exact (SEnt.ch .nil).trans (SEnt.nil _ _)
         · exact meetRes_no (by simpa using hg))
      | (exfalso; apply hg; simp_all [meetOk, relOk]; done)
end Go.Proofs.Ytiifdhdhjioefaa
