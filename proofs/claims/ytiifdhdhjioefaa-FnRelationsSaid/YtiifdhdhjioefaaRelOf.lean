/- Relations of rows: impl.cloneRows, sortedTuples, makeRelation; spec.RelationOf, impl.RelationOf: the same answer. Proved for this program; conditions: lengths below 2^42. -/
import Derived.Test.YtiifdhdhjioefaaRelW
import Derived.Test.YtiifdhdhjioefaaMeet
namespace Go.Proofs.Ytiifdhdhjioefaa
open Go Go.Proofs
set_option linter.unusedVariables false
/-- the answer: a relation of a set of rows, or nothing -/
def relAr (ok : Bool) (a : Int) : Int := if ok then a else 0
def relRows (ok : Bool) (xs : List (List Int)) : List (List Int) := if ok then xs else []
abbrev RelRes (ok : Bool) (a : Int) (xs : List (List Int)) (r : VP) (S' : List HP) : Prop :=
  ∃ s : Sv, r = vtup [vagg [vint (relAr ok a), vlit (vsv s)], vbool ok] ∧ S' = [hsl (tS tInt) (vsv s) (relRows ok xs)]
theorem relRes_no {ok : Bool} {a : Int} {xs : List (List Int)} (h : ok = false) : RelRes ok a xs (vtup [vagg [vint 0, vlit (.slice none 0 0)], vbool false]) [hsl (tS tInt) (vsv (none, 0, 0)) []] := by
  subst h; exact ⟨(none, 0, 0), rfl, rfl⟩
theorem relRes_yes {ok : Bool} {a : Int} {xs : List (List Int)} (h : ok = true) (s : Sv) : RelRes ok a xs (vtup [vagg [vint a, vlit (vsv s)], vbool true]) [hsl (tS tInt) (vsv s) xs] := by
  subst h; exact ⟨s, rfl, rfl⟩
def rowsOk (n a : Int) (ts : List (List Int)) : Bool := ts.all fun t => decide ((t.length : Int) = a) && elB n t
def rofOk (n a : Int) (ts : List (List Int)) : Bool := decide (1 ≤ n ∧ n ≤ 8) && decide (1 ≤ a ∧ a ≤ 3) && decide (ts.length ≤ 600) && rowsOk n a ts
theorem putF_snoc {ts : List (List Int)} {m : Nat} (h : m < ts.length) : putF (ts.take (m + 1)) = putL (putF (ts.take m)) ts[m] := by
  rw [List.take_add_one, List.getElem?_eq_getElem h, putF, putF, List.foldl_append]; rfl
theorem putF_len {k : Nat} {ts : List (List Int)} (ht : ∀ u ∈ ts, u.length = k) : ∀ u ∈ putF ts, u.length = k := fun u hu => ht u (((putF_str ht).2 u).1 hu)

set_option maxRecDepth 10000 in
set_option maxHeartbeats 1000000 in
theorem cloneRows_c (ts : List (List Int)) (hl : ts.length ≤ 1048576) (hr : ∀ t ∈ ts, t.length ≤ 1048576) :
    Spec Try.prog 177 [vsl 1 (fun t : List Int => [vsl 1 (fun x : Int => [vint x]) t]) ts] [] (fun r S' => ∃ s : Sv, r = vlit (vsv s) ∧ S' = [hsl (tS tInt) (vsv s) ts]) := by
  refine Spec.of_run2 (n := 20) Try.func177 rfl Try.results177 Try.ntmps177 rfl ?_
  repeat' (first | (with_reducible refine RL.done ?_) | (with_reducible refine RL.wanted ?_ ?_; exact rfl) | ((with_reducible show RH _ _ _ ⟨some 6, .buildSlice _ _ _, _, _, _, _⟩ _ _ _ _); (refine RH.eff rfl rfl (EOpS.e (EOpS.slitV (by ((repeat (first | exact Elts.nil | apply Elts.one1 rfl | apply Elts.agg2 rfl)); done)) (by simp) rfl rfl)) ?_; rintro _ _ ⟨b6, rfl, rfl⟩)) | ((with_reducible show RH _ _ _ _ _ _ _ _); refine RH.val (hK := ?_)) | (with_reducible first | refine Run.seq ?_ | refine Run.region ?_ | refine Run.block ?_) | (with_reducible refine seqN (K := Run _ _ _ _) ?_))
  refine Run.sent (T := [hsl (tS tInt) (vsv (some ⟨b6, 0, none⟩, 0, 0)) []]) (SEnt.packNil (tS tInt) rfl) ?_
  refine Run.loop (α := Nat × Sv) (fun z => [(3, vlit (vsv z.2)), (7, vsl 1 (fun t : List Int => [vsl 1 (fun x : Int => [vint x]) t]) ts), (8, vint (ts.length : Int)), (9, vint (z.1 : Int))]) (fun z => [hsl (tS tInt) (vsv z.2) (ts.take z.1)]) (fun z => z.1 ≤ ts.length) (fun z => ts.length - z.1) (0, (some ⟨b6, 0, none⟩, 0, 0)) (Nat.zero_le _) (Ent.of (by dsimp only; exact slA) (.cons .head (by simp) chA)) ?_
  rintro ⟨m, s⟩ hm
  (try dsimp only at hm ⊢)
  have hle2 : (ts.take m).length = m := by rw [List.length_take]; omega
  repeat' (first | (with_reducible first | refine RL.done ?_ | refine RL.app1 ?_) | (with_reducible refine RL.wanted ?_ ?_; exact rfl) | ((with_reducible show RH _ _ _ ⟨some 16, .buildSlice _ _ _, _, _, _, _⟩ _ _ _ _); (refine RH.eff rfl rfl (EOpS.e (EOpS.slitV (by ((repeat (first | exact Elts.nil | apply Elts.one1 rfl | apply Elts.agg2 rfl)); done)) (by simp) rfl rfl)) ?_; rintro _ _ ⟨b16, rfl, rfl⟩)) | ((with_reducible show RH _ _ _ ⟨_, .call ⟨.value (.func 77), _, _⟩, _, _, _, _⟩ _ _ _ _); refine RH.cP Try.call77 ?_; refine ⟨_, clone_c _ (Nat.le_trans (hr _ (List.getElem_mem _)) (by decide)), ?_⟩; rintro _ _ ⟨s1, rfl, rfl⟩) | ((with_reducible show RH _ _ _ ⟨_, .call ⟨.builtin .append, _, _⟩, _, _, _, _⟩ _ _ _ _); (refine RH.appR rfl rfl rfl (by repeat (first | exact Pick.nil | (apply Pick.cons; (with_reducible repeat (first | exact Rem.head | apply Rem.tail))))) (by first | omega | (simp; omega)) (by first | omega | (simp; omega)) ?_); rintro _ _ ⟨s, rfl, rfl⟩) | ((with_reducible show RH _ _ _ _ _ _ _ _); refine RH.val (hK := ?_)) | (with_reducible first | refine Run.seq ?_ | refine Run.region ?_ | refine Run.block ?_ | refine Run.skip ?_ | refine Run.exit ?_ | refine Run.ret ?_) | (with_reducible show Run _ _ (.cond _ _ _) _ _ _; refine Run.condD rfl (fun h => ?_) (fun h => ?_)) | (with_reducible first | refine seqN (K := Run _ _ _ _) ?_ | refine seqE ?_ | refine blockN ?_ | refine blockE ?_))
  · with_reducible refine seqN ?_
    have hd : ts.take (m + 1) = ts.take m ++ [ts[m]] := by rw [List.take_add_one, List.getElem?_eq_getElem (by omega)]; rfl
    exact ⟨(m + 1, _), by dsimp only; omega, by dsimp only; omega, Ent.of (by dsimp only; exact slA) (by dsimp only; rw [hd]; exact chA)⟩
  · obtain rfl : m = ts.length := by omega
    refine ⟨eA, _, [hsl (tS tInt) (vsv s) ts], resA, ?_, ?_⟩
    · exact SEnt.ch (.cons .head (by rw [List.take_length]) .nil)
    · exact ⟨s, rfl, rfl⟩
set_option maxRecDepth 10000 in
set_option maxHeartbeats 1000000 in
theorem sortedTuples_c (ts : List (List Int)) (hl : ts.length ≤ 1000000) (hr : ∀ t ∈ ts, t.length ≤ 1048576) :
    Spec Try.prog 137 [vsl 1 (fun t : List Int => [vsl 1 (fun x : Int => [vint x]) t]) ts] [] (fun r S' => ∃ (s : Sv) (ys : List (List Int)), r = vlit (vsv s) ∧ S' = [hsl (tS tInt) (vsv s) ys] ∧ Mrg leL 0 ts.length ts ys) := by
  have hf : Few ts := fun t ht => Nat.le_trans (hr t ht) (by decide)
  refine Spec.of_run2 (n := 9) Try.func137 rfl Try.results137 Try.ntmps137 rfl ?_
  repeat' (first | (with_reducible first | refine RL.done ?_ | refine RL.app1 ?_) | (with_reducible refine RL.wanted ?_ ?_; exact rfl) | ((with_reducible show RH _ _ _ ⟨_, .call ⟨.value (.func 177), _, _⟩, _, _, _, _⟩ _ _ _ _); refine RH.cP Try.call177 ?_; refine ⟨_, cloneRows_c ts (by omega) hr, ?_⟩; rintro _ _ ⟨s1, rfl, rfl⟩) | ((with_reducible show RH _ _ _ ⟨_, .call ⟨.value (.func 178), _, _⟩, _, _, _, _⟩ _ _ _ _); refine RH.cW Try.call178 ?_; refine ⟨_, _, _, (by repeat (first | exact Pick.nil | (apply Pick.cons; (with_reducible repeat (first | exact Rem.head | apply Rem.tail))))), sortRows_c s1 ts hf hl, ?_⟩; rintro _ _ ⟨ys, rfl, rfl, hm⟩; refine RL.nm ?_) | ((with_reducible show RH _ _ _ _ _ _ _ _); refine RH.val (hK := ?_)) | (with_reducible first | refine Run.seq ?_ | refine Run.region ?_ | refine Run.ret ?_) | (with_reducible refine seqN (K := Run _ _ _ _) ?_))
  refine ⟨eA, _, [hsl (tS tInt) (vsv s1) ys], resA, ?_, ?_⟩
  · exact SEnt.ch chA
  · exact ⟨s1, ys, rfl, rfl, hm⟩
set_option maxRecDepth 10000 in
set_option maxHeartbeats 1000000 in
theorem makeRelation_c (a : Int) (k : Nat) (ts : List (List Int)) (hl : ts.length ≤ 1000000) (hk : k ≤ 1048576) (ht : ∀ u ∈ ts, u.length = k) :
    Spec Try.prog 73 [vint a, vsl 1 (fun t : List Int => [vsl 1 (fun x : Int => [vint x]) t]) ts] [] (fun r S' => ∃ s : Sv, r = vagg [vint a, vlit (vsv s)] ∧ S' = [hsl (tS tInt) (vsv s) (putF ts)]) := by
  have hr : ∀ t ∈ ts, t.length ≤ 1048576 := fun t h => by rw [ht t h]; exact hk
  refine Spec.of_run2 (n := 10) Try.func73 rfl Try.results73 Try.ntmps73 rfl ?_
  repeat' (first | (with_reducible first | refine RL.done ?_ | refine RL.app1 ?_) | (with_reducible refine RL.wanted ?_ ?_; exact rfl) | ((with_reducible show RH _ _ _ ⟨some 4, .alloc _, _, _, _, _⟩ _ _ _ _); refine RH.alloc rfl ?_; rintro _ _ ⟨b4, rfl, rfl⟩) | ((with_reducible show RH _ _ _ ⟨_, .call ⟨.value (.func 137), _, _⟩, _, _, _, _⟩ _ _ _ _); refine RH.cP Try.call137 ?_; refine ⟨_, sortedTuples_c ts hl hr, ?_⟩; rintro _ _ ⟨s1, ys, rfl, rfl, hm⟩) | ((with_reducible show RH _ _ _ ⟨_, .call ⟨.value (.func 136), _, _⟩, _, _, _, _⟩ _ _ _ _); refine RH.cW Try.call136 ?_; refine ⟨_, _, _, (by repeat (first | exact Pick.nil | (apply Pick.cons; (with_reducible repeat (first | exact Rem.head | apply Rem.tail))))), different_c s1 ys (by have := hm.mv.len; omega) (fun t ht => Nat.le_trans (hr t (hm.mv.perm.mem_iff.2 ht)) (by decide)), ?_⟩; rintro _ _ ⟨s2, rfl, rfl⟩; refine RL.nm ?_) | ((with_reducible show RH _ _ _ _ _ _ _ _); first | refine RH.val (hK := ?_) | refine RH.upd (hK := ?_)) | (with_reducible first | refine Run.seq ?_ | refine Run.region ?_ | refine Run.ret ?_) | (with_reducible refine seqN (K := Run _ _ _ _) ?_))
  refine ⟨eA, _, [hsl (tS tInt) (vsv s2) (putF ts)], resA, ?_, ?_⟩
  · exact SEnt.ch (.cons .head (by rw [dif_put ht hm]) .nil)
  · exact ⟨s2, rfl, rfl⟩
theorem rowsOk_take {n a : Int} {ts : List (List Int)} {m : Nat} (h : m < ts.length) (h1 : rowsOk n a (ts.take m) = true) (h2 : (ts[m].length : Int) = a ∧ elB n ts[m] = true) : rowsOk n a (ts.take (m + 1)) = true := by
  rw [List.take_add_one, List.getElem?_eq_getElem h]
  simp only [rowsOk, List.all_append, Bool.and_eq_true] at h1 ⊢
  exact ⟨h1, by simp [h2.1, h2.2]⟩
theorem rowsOk_not {n a : Int} {ts : List (List Int)} {m : Nat} (h : m < ts.length) (h2 : ¬ ((ts[m].length : Int) = a ∧ elB n ts[m] = true)) : rofOk n a ts = false := by
  have h3 : rowsOk n a ts = false := by
    cases e : rowsOk n a ts with
    | false => rfl
    | true =>
      simp only [rowsOk, List.all_eq_true, Bool.and_eq_true, decide_eq_true_eq] at e
      exact (h2 (e _ (List.getElem_mem h))).elim
  rw [rofOk, h3, Bool.and_false]
theorem rowsOk_len {n : Int} {k : Nat} {ts : List (List Int)} (h : rowsOk n (k : Int) ts = true) : ∀ t ∈ ts, t.length = k := fun t ht => by
  simp only [rowsOk, List.all_eq_true, Bool.and_eq_true, decide_eq_true_eq] at h
  have := (h t ht).1; omega
set_option maxRecDepth 10000 in
set_option maxHeartbeats 1000000 in
theorem specRof_c (n a : Int) (ts : List (List Int)) (hl : ts.length ≤ 4398046511104) (hr : ∀ t ∈ ts, t.length ≤ 4611686018427387904) :
    Spec Try.prog 23 [vint n, vint a, vsl 1 (fun t : List Int => [vsl 1 (fun x : Int => [vint x]) t]) ts] [] (RelRes (rofOk n a ts) a (putF ts)) := by
  by_cases hh : (1 ≤ n ∧ n ≤ 8) ∧ (1 ≤ a ∧ a ≤ 3) ∧ ts.length ≤ 600
  · obtain ⟨hn, ha, h6⟩ := hh
    obtain ⟨k, rfl⟩ : ∃ k : Nat, a = k := ⟨a.toNat, by omega⟩
    refine Spec.of_run2 (n := 52) Try.func23 rfl Try.results23 Try.ntmps23 rfl ?_
    repeat' (first | (with_reducible first | refine RL.done ?_ | refine RL.app0 ?_) | (with_reducible refine RL.wanted ?_ ?_; exact rfl) | ((with_reducible show RH _ _ _ ⟨some 6, .alloc _, _, _, _, _⟩ _ _ _ _); refine RH.alloc rfl ?_; rintro _ _ ⟨b6, rfl, rfl⟩) | ((with_reducible show RH _ _ _ ⟨some 25, .buildSlice _ _ _, _, _, _, _⟩ _ _ _ _); (refine RH.eff rfl rfl (EOpS.e (EOpS.slitV (by ((repeat (first | exact Elts.nil | apply Elts.one1 rfl | apply Elts.agg2 rfl)); done)) (by simp) rfl rfl)) ?_; rintro _ _ ⟨b25, rfl, rfl⟩)) | ((with_reducible show RH _ _ _ ⟨some 8, .alloc _, _, _, _, _⟩ _ _ _ _); refine RH.alloc rfl ?_; rintro _ _ ⟨b8, rfl, rfl⟩) | ((with_reducible show RH _ _ _ ⟨_, .call ⟨.value (.func 88), _, _⟩, _, _, _, _⟩ _ _ _ _); refine RH.cP Try.call88 ?_; refine ⟨_, l6Size_c _, ?_⟩; rintro _ _ ⟨rfl, rfl⟩) | ((with_reducible show RH _ _ _ ⟨_, .call ⟨.value (.func 85), _, _⟩, _, _, _, _⟩ _ _ _ _); refine RH.cP Try.call85 ?_; refine ⟨_, l1In_c _ _ _, ?_⟩; rintro _ _ ⟨rfl, rfl⟩) | ((with_reducible show RH _ _ _ _ _ _ _ _); first | refine RH.val (hK := ?_) | refine RH.upd (hK := ?_)) | (with_reducible show RL _ _ _ (_ :: _) _ _ _; first | refine RL.guardYes rfl rfl rfl rfl ?_ | refine RL.guardNoS rfl rfl rfl rfl rfl rfl ?_ | refine RL.splitND rfl rfl rfl (fun h => ?_) (fun h => ?_)) | (with_reducible first | refine Run.seq ?_ | refine Run.region ?_ | refine Run.block ?_ | refine Run.skip ?_ | refine Run.ret ?_) | (with_reducible show Run _ _ (.cond _ _ _) _ _ _; first | refine Run.condT rfl ?_ | refine Run.condD rfl (fun h => ?_) (fun h => ?_)) | (with_reducible first | refine seqN (K := Run _ _ _ _) ?_ | refine seqR ?_))
    all_goals first
      | (exfalso; omega)
      | (exfalso; simp_all; done)
      | skip
    refine Run.sent (T := [hsl (tS tInt) (vsv (some ⟨b25, 0, none⟩, 0, 0)) [], hcells b8 [vint (k : Int), vsb b25 0 0], hcells b6 [vint 0, vlit (.slice none 0 0)]])
      ((SEnt.pick (.cons (.tail .head) .nil)).trans (SEnt.packNil (tS tInt) rfl)) ?_
    refine Run.loop (α := Nat × Sv) (fun x => [(0, vint n), (1, vint (k : Int)), (2, vsl 1 (fun t : List Int => [vsl 1 (fun x : Int => [vint x]) t]) ts), (6, vptr b6 0), (8, vptr b8 0), (9, vint (x.1 : Int))])
      (fun x => [hsl (tS tInt) (vsv x.2) (putF (ts.take x.1)), hcells b8 [vint (k : Int), vlit (vsv x.2)], hcells b6 [vint 0, vlit (.slice none 0 0)]])
      (fun x => x.1 ≤ ts.length ∧ rowsOk n k (ts.take x.1) = true) (fun x => ts.length - x.1) (0, (some ⟨b25, 0, none⟩, 0, 0)) (by simp [rowsOk]) (Ent.of slA .refl) ?_
    rintro ⟨m, s⟩ ⟨hm, hok⟩
    dsimp only at hm hok ⊢
    have hln := rowsOk_len hok
    have hstr := (putF_str hln).1
    have hlen := putF_len hln
    have hpl := putF_le (ts.take m)
    have hle2 : (ts.take m).length = m := by rw [List.length_take]; omega
    rcases Nat.lt_or_eq_of_le hm with h9 | h9
    · by_cases hrow : (ts[m].length = k) ∧ elB n ts[m] = true
      · repeat' (first | (with_reducible first | refine RL.done ?_ | refine RL.app0 ?_ | refine RD.app1 ?_) | (with_reducible refine RL.wanted ?_ ?_; exact rfl) | ((with_reducible show Run _ _ (.region 9 _ true) _ _ _); refine Run.regionD (fun i => i == 7 || i == 9) rfl ?_; change RD _ _ _ _ _ _ 10 (dm 10 0) _ _) | ((with_reducible show RD _ _ 9 _ _ _ _ _ _ _); first | ((with_reducible show RD _ _ _ _ _ _ _ (dm 10 0) _ _); refine RD.tk 0 (dm 10 898) (dm 10 1) (hK := ?_)) | ((with_reducible show RD _ _ _ _ _ _ _ (dm 10 1) _ _); refine RD.tk 1 (dm 10 896) (dm 10 3) (hK := ?_)) | ((with_reducible show RD _ _ _ _ _ _ _ (dm 10 3) _ _); refine RD.tk 2 (dm 10 1008) (dm 10 7) (hK := ?_)) | ((with_reducible show RD _ _ _ _ _ _ _ (dm 10 7) _ _); refine RD.tk 3 (dm 10 1008) (dm 10 15) (hK := ?_)) | ((with_reducible show RD _ _ _ _ _ _ _ (dm 10 15) _ _); refine RD.tk 4 (dm 10 992) (dm 10 31) (hK := ?_)) | ((with_reducible show RD _ _ _ _ _ _ _ (dm 10 31) _ _); refine RD.tk 5 (dm 10 960) (dm 10 63) (hK := ?_)) | ((with_reducible show RD _ _ _ _ _ _ _ (dm 10 63) _ _); refine RD.a1 6 ?_) | ((with_reducible show RD _ _ _ _ _ _ _ (dm 10 127) _ _); refine RD.a1 7 ?_) | ((with_reducible show RD _ _ _ _ _ _ _ (dm 10 255) _ _); refine RD.tk 8 (dm 10 512) (dm 10 511) (hK := ?_)) | ((with_reducible show RD _ _ _ _ _ _ _ (dm 10 511) _ _); refine RD.a1 9 ?_) | ((with_reducible show RD _ _ _ _ _ _ 0 _ _ _); refine RD.done (by kernel_rfl) ?_)) | ((with_reducible show RO _ _ 9 _ _ _ _ _ _ _ _); first | ((with_reducible show RO _ _ _ _ _ _ _ (dm 10 63) 6 _ _); (refine RO.cP (dm 10 127) Try.call79 ?_; refine ⟨_, l1Own_c _ (by omega), ?_⟩; rintro _ _ ⟨s1, rfl, rfl⟩)) | ((with_reducible show RO _ _ _ _ _ _ _ (dm 10 127) 7 _ _); (refine RO.h (dm 10 255) ?_; show RH _ _ _ ⟨_, _, _, _, _, _⟩ _ _ _ _)) | ((with_reducible show RO _ _ _ _ _ _ _ (dm 10 511) 9 _ _); (refine RO.h (dm 10 1023) ?_; show RH _ _ _ ⟨_, _, _, _, _, _⟩ _ _ _ _))) | ((with_reducible show RH _ _ _ ⟨_, .call ⟨.value (.func 89), _, _⟩, _, _, _, _⟩ _ _ _ _); refine RH.cP Try.call89 ?_; refine ⟨_, l8Tuple_c _ _ _ (by omega) (hr _ (List.getElem_mem _)), ?_⟩; rintro _ _ ⟨rfl, rfl⟩) | ((with_reducible show RH _ _ _ ⟨_, .call ⟨.value (.func 90), _, _⟩, _, _, _, _⟩ _ _ _ _); refine RH.cW Try.call90 ?_; refine ⟨_, _, _, (by repeat (first | exact Pick.nil | (apply Pick.cons; (with_reducible repeat (first | exact Rem.head | apply Rem.tail))))), l8Put_c (putF (ts.take m)) ts[m] s s1 k hstr hlen hrow.1 (by omega) (by omega), ?_⟩; rintro _ _ ⟨s2, rfl, rfl⟩; refine RL.nm ?_) | ((with_reducible show RH _ _ _ _ _ _ _ _); first | refine RH.val (hK := ?_) | refine RH.upd (hK := ?_)) | (with_reducible first | refine Run.seq ?_ | refine Run.region ?_ | refine Run.block ?_ | refine Run.skip ?_ | refine Run.exit ?_ | refine Run.ret ?_) | (with_reducible show Run _ _ (.cond _ _ _) _ _ _; first | refine Run.condD rfl (fun h => ?_) (fun h => ?_) | refine Run.condNB rfl (fun h => ?_) (fun h => ?_)) | (with_reducible first | refine seqN (K := Run _ _ _ _) ?_ | refine seqE ?_ | refine seqR ?_ | refine blockN ?_ | refine blockR ?_ | refine blockE ?_))
        all_goals first
          | (exfalso; omega)
          | (exfalso; simp_all; done)
          | (with_reducible refine seqN ?_
             exact ⟨(m + 1, _), by dsimp only; exact ⟨by omega, rowsOk_take h9 hok ⟨by omega, hrow.2⟩⟩, by dsimp only; omega, Ent.of (by dsimp only; exact slA) (by dsimp only; rw [putF_snoc h9]; exact chA)⟩)
      · repeat' (first | (with_reducible first | refine RL.done ?_ | refine RL.app0 ?_) | (with_reducible refine RL.wanted ?_ ?_; exact rfl) | ((with_reducible show RH _ _ _ ⟨_, .call ⟨.value (.func 89), _, _⟩, _, _, _, _⟩ _ _ _ _); refine RH.cP Try.call89 ?_; refine ⟨_, l8Tuple_c _ _ _ (by omega) (hr _ (List.getElem_mem _)), ?_⟩; rintro _ _ ⟨rfl, rfl⟩) | ((with_reducible show RH _ _ _ _ _ _ _ _); first | refine RH.val (hK := ?_) | refine RH.upd (hK := ?_)) | (with_reducible first | refine Run.seq ?_ | refine Run.region ?_ | refine Run.block ?_ | refine Run.skip ?_ | refine Run.exit ?_ | refine Run.ret ?_) | (with_reducible show Run _ _ (.cond _ _ _) _ _ _; first | refine Run.condD rfl (fun h => ?_) (fun h => ?_) | refine Run.condNB rfl (fun h => ?_) (fun h => ?_)) | (with_reducible first | refine seqN (K := Run _ _ _ _) ?_ | refine seqE ?_ | refine seqR ?_ | refine blockR ?_ | refine blockE ?_))
        all_goals first
          | (exfalso; omega)
          | (refine ⟨eA, _, [hsl (tS tInt) (vsv (none, 0, 0)) []], resA, ?_, ?_⟩
             · exact (SEnt.ch .nil).trans (SEnt.nil _ _)
             · exact relRes_no (rowsOk_not h9 fun h => hrow ⟨by omega, h.2⟩))
          | (exfalso; apply hrow; simp_all; omega)
    · subst h9
      rw [List.take_length] at hok
      repeat' (first | (with_reducible first | refine RL.done ?_ | refine RL.app0 ?_) | (with_reducible refine RL.wanted ?_ ?_; exact rfl) | ((with_reducible show RH _ _ _ ⟨_, .call ⟨.value (.func 89), _, _⟩, _, _, _, _⟩ _ _ _ _); refine RH.cP Try.call89 ?_; refine ⟨_, l8Tuple_c _ _ _ (by omega) (hr _ (List.getElem_mem _)), ?_⟩; rintro _ _ ⟨rfl, rfl⟩) | ((with_reducible show RH _ _ _ _ _ _ _ _); first | refine RH.val (hK := ?_) | refine RH.upd (hK := ?_)) | (with_reducible first | refine Run.seq ?_ | refine Run.region ?_ | refine Run.block ?_ | refine Run.skip ?_ | refine Run.exit ?_ | refine Run.ret ?_) | (with_reducible show Run _ _ (.cond _ _ _) _ _ _; first | refine Run.condD rfl (fun h => ?_) (fun h => ?_) | refine Run.condNB rfl (fun h => ?_) (fun h => ?_)) | (with_reducible first | refine seqN (K := Run _ _ _ _) ?_ | refine seqE ?_ | refine seqR ?_ | refine blockR ?_ | refine blockE ?_))
      all_goals first
        | (exfalso; omega)
        | (refine ⟨eA, _, [hsl (tS tInt) (vsv s) (putF ts)], resA, ?_, ?_⟩
           · exact SEnt.ch (.cons .head (by rw [List.take_length]) .nil)
           · exact relRes_yes (by rw [rofOk, hok, decide_eq_true hn, decide_eq_true ha, decide_eq_true h6]; rfl) s)
  · refine Spec.of_run2 (n := 52) Try.func23 rfl Try.results23 Try.ntmps23 rfl ?_
    repeat' (first | (with_reducible first | refine RL.done ?_ | refine RL.app0 ?_) | (with_reducible refine RL.wanted ?_ ?_; exact rfl) | ((with_reducible show RH _ _ _ ⟨some 6, .alloc _, _, _, _, _⟩ _ _ _ _); refine RH.alloc rfl ?_; rintro _ _ ⟨b6, rfl, rfl⟩) | ((with_reducible show RH _ _ _ ⟨some 25, .buildSlice _ _ _, _, _, _, _⟩ _ _ _ _); (refine RH.eff rfl rfl (EOpS.e (EOpS.slitV (by ((repeat (first | exact Elts.nil | apply Elts.one1 rfl | apply Elts.agg2 rfl)); done)) (by simp) rfl rfl)) ?_; rintro _ _ ⟨b25, rfl, rfl⟩)) | ((with_reducible show RH _ _ _ ⟨some 8, .alloc _, _, _, _, _⟩ _ _ _ _); refine RH.alloc rfl ?_; rintro _ _ ⟨b8, rfl, rfl⟩) | ((with_reducible show RH _ _ _ ⟨_, .call ⟨.value (.func 88), _, _⟩, _, _, _, _⟩ _ _ _ _); refine RH.cP Try.call88 ?_; refine ⟨_, l6Size_c _, ?_⟩; rintro _ _ ⟨rfl, rfl⟩) | ((with_reducible show RH _ _ _ ⟨_, .call ⟨.value (.func 85), _, _⟩, _, _, _, _⟩ _ _ _ _); refine RH.cP Try.call85 ?_; refine ⟨_, l1In_c _ _ _, ?_⟩; rintro _ _ ⟨rfl, rfl⟩) | ((with_reducible show RH _ _ _ _ _ _ _ _); first | refine RH.val (hK := ?_) | refine RH.upd (hK := ?_)) | (with_reducible show RL _ _ _ (_ :: _) _ _ _; first | refine RL.guardYes rfl rfl rfl rfl ?_ | refine RL.guardNoS rfl rfl rfl rfl rfl rfl ?_ | refine RL.splitND rfl rfl rfl (fun h => ?_) (fun h => ?_)) | (with_reducible first | refine Run.seq ?_ | refine Run.region ?_ | refine Run.block ?_ | refine Run.skip ?_ | refine Run.ret ?_) | (with_reducible show Run _ _ (.cond _ _ _) _ _ _; first | refine Run.condT rfl ?_ | refine Run.condD rfl (fun h => ?_) (fun h => ?_)) | (with_reducible first | refine seqN (K := Run _ _ _ _) ?_ | refine seqR ?_))
    all_goals first
      | (refine ⟨eA, _, [hsl (tS tInt) (vsv (none, 0, 0)) []], resA, ?_, ?_⟩
         · exact (SEnt.ch .nil).trans (SEnt.nil _ _)
         · refine relRes_no ?_
           simp only [rofOk, Bool.and_eq_false_iff, decide_eq_false_iff_not]
           omega)
      | (exfalso; apply hh; simp_all; done)
      | (exfalso; apply hh; simp_all; omega)
set_option maxRecDepth 10000 in
set_option maxHeartbeats 1000000 in
theorem implRof_c (n a : Int) (ts : List (List Int)) (hl : ts.length ≤ 4398046511104) (hr : ∀ t ∈ ts, t.length ≤ 4611686018427387904) :
    Spec Try.prog 22 [vint n, vint a, vsl 1 (fun t : List Int => [vsl 1 (fun x : Int => [vint x]) t]) ts] [] (RelRes (rofOk n a ts) a (putF ts)) := by
  by_cases hh : (1 ≤ n ∧ n ≤ 8) ∧ (1 ≤ a ∧ a ≤ 3) ∧ ts.length ≤ 600
  · obtain ⟨hn, ha, h6⟩ := hh
    obtain ⟨k, rfl⟩ : ∃ k : Nat, a = k := ⟨a.toNat, by omega⟩
    refine Spec.of_run2 (n := 48) Try.func22 rfl Try.results22 Try.ntmps22 rfl ?_
    repeat' (first | (with_reducible first | refine RL.done ?_ | refine RL.app0 ?_) | (with_reducible refine RL.wanted ?_ ?_; exact rfl) | ((with_reducible show RH _ _ _ ⟨some 6, .alloc _, _, _, _, _⟩ _ _ _ _); refine RH.alloc rfl ?_; rintro _ _ ⟨b6, rfl, rfl⟩) | ((with_reducible show RH _ _ _ ⟨_, .call ⟨.value (.func 86), _, _⟩, _, _, _, _⟩ _ _ _ _); refine RH.cP Try.call86 ?_; refine ⟨_, isSize_c _, ?_⟩; rintro _ _ ⟨rfl, rfl⟩) | ((with_reducible show RH _ _ _ _ _ _ _ _); first | refine RH.val (hK := ?_) | refine RH.upd (hK := ?_)) | (with_reducible show RL _ _ _ (_ :: _) _ _ _; first | refine RL.guardYes rfl rfl rfl rfl ?_ | refine RL.guardNoS rfl rfl rfl rfl rfl rfl ?_ | refine RL.splitD rfl rfl rfl (fun h => ?_) (fun h => ?_) | refine RL.splitND rfl rfl rfl (fun h => ?_) (fun h => ?_)) | (with_reducible first | refine Run.seq ?_ | refine Run.region ?_ | refine Run.block ?_ | refine Run.skip ?_ | refine Run.ret ?_) | (with_reducible show Run _ _ (.cond _ _ _) _ _ _; first | refine Run.condT rfl ?_ | refine Run.condD rfl (fun h => ?_) (fun h => ?_)) | (with_reducible first | refine seqN (K := Run _ _ _ _) ?_ | refine seqR ?_))
    all_goals first
      | (exfalso; omega)
      | (exfalso; simp_all; done)
      | skip
    refine Run.loop (α := Nat) (fun m => [(0, vint n), (1, vint (k : Int)), (2, vsl 1 (fun t : List Int => [vsl 1 (fun x : Int => [vint x]) t]) ts), (6, vptr b6 0), (27, vsl 1 (fun t : List Int => [vsl 1 (fun x : Int => [vint x]) t]) ts), (28, vint (ts.length : Int)), (29, vint (m : Int))])
      (fun m => [hcells b6 [vint 0, vlit (.slice none 0 0)]])
      (fun m => m ≤ ts.length ∧ rowsOk n k (ts.take m) = true) (fun m => ts.length - m) 0 (by simp [rowsOk]) (Ent.of slA .refl) ?_
    rintro m ⟨hm, hok⟩
    (try dsimp only at hm hok ⊢)
    rcases Nat.lt_or_eq_of_le hm with h9 | h9
    · by_cases hrow : (ts[m].length = k) ∧ elB n ts[m] = true
      · repeat' (first | (with_reducible first | refine RL.done ?_ | refine RL.app0 ?_) | (with_reducible refine RL.wanted ?_ ?_; exact rfl) | ((with_reducible show RH _ _ _ ⟨_, .call ⟨.value (.func 87), _, _⟩, _, _, _, _⟩ _ _ _ _); refine RH.cP Try.call87 ?_; refine ⟨_, inSize_c _ _ (hr _ (List.getElem_mem _)), ?_⟩; rintro _ _ ⟨rfl, rfl⟩) | ((with_reducible show RH _ _ _ _ _ _ _ _); first | refine RH.val (hK := ?_) | refine RH.upd (hK := ?_)) | (with_reducible show RL _ _ _ (_ :: _) _ _ _; first | refine RL.guardYes rfl rfl rfl rfl ?_ | refine RL.guardNoS rfl rfl rfl rfl rfl rfl ?_ | refine RL.splitD rfl rfl rfl (fun h => ?_) (fun h => ?_)) | (with_reducible first | refine Run.seq ?_ | refine Run.region ?_ | refine Run.block ?_ | refine Run.skip ?_ | refine Run.exit ?_ | refine Run.ret ?_) | (with_reducible show Run _ _ (.cond _ _ _) _ _ _; first | refine Run.condT rfl ?_ | refine Run.condD rfl (fun h => ?_) (fun h => ?_) | refine Run.condNB rfl (fun h => ?_) (fun h => ?_)) | (with_reducible first | refine seqN (K := Run _ _ _ _) ?_ | refine seqE ?_ | refine seqR ?_ | refine blockN ?_ | refine blockR ?_ | refine blockE ?_))
        all_goals first
          | (exfalso; omega)
          | (exfalso; simp_all; done)
          | (with_reducible refine seqN ?_
             exact ⟨m + 1, by (try dsimp only); exact ⟨by omega, rowsOk_take h9 hok ⟨by omega, hrow.2⟩⟩, by (try dsimp only); omega, Ent.of (by (try dsimp only); exact slA) chA⟩)
      · repeat' (first | (with_reducible first | refine RL.done ?_ | refine RL.app0 ?_) | (with_reducible refine RL.wanted ?_ ?_; exact rfl) | ((with_reducible show RH _ _ _ ⟨_, .call ⟨.value (.func 87), _, _⟩, _, _, _, _⟩ _ _ _ _); refine RH.cP Try.call87 ?_; refine ⟨_, inSize_c _ _ (hr _ (List.getElem_mem _)), ?_⟩; rintro _ _ ⟨rfl, rfl⟩) | ((with_reducible show RH _ _ _ _ _ _ _ _); first | refine RH.val (hK := ?_) | refine RH.upd (hK := ?_)) | (with_reducible show RL _ _ _ (_ :: _) _ _ _; first | refine RL.guardYes rfl rfl rfl rfl ?_ | refine RL.guardNoS rfl rfl rfl rfl rfl rfl ?_ | refine RL.splitD rfl rfl rfl (fun h => ?_) (fun h => ?_)) | (with_reducible first | refine Run.seq ?_ | refine Run.region ?_ | refine Run.block ?_ | refine Run.skip ?_ | refine Run.exit ?_ | refine Run.ret ?_) | (with_reducible show Run _ _ (.cond _ _ _) _ _ _; first | refine Run.condT rfl ?_ | refine Run.condD rfl (fun h => ?_) (fun h => ?_) | refine Run.condNB rfl (fun h => ?_) (fun h => ?_)) | (with_reducible first | refine seqN (K := Run _ _ _ _) ?_ | refine seqE ?_ | refine seqR ?_ | refine blockN ?_ | refine blockR ?_ | refine blockE ?_))
        all_goals first
          | (exfalso; omega)
          | (refine ⟨eA, _, [hsl (tS tInt) (vsv (none, 0, 0)) []], resA, ?_, ?_⟩
             · exact (SEnt.ch .nil).trans (SEnt.nil _ _)
             · exact relRes_no (rowsOk_not h9 fun h => hrow ⟨by omega, h.2⟩))
          | (exfalso; apply hrow; simp_all; omega)
          | (exfalso; simp_all; done)
    · subst h9
      rw [List.take_length] at hok
      have hln := rowsOk_len hok
      repeat' (first | (with_reducible first | refine RL.done ?_ | refine RL.app1 ?_) | (with_reducible refine RL.wanted ?_ ?_; exact rfl) | ((with_reducible show RH _ _ _ ⟨_, .call ⟨.value (.func 73), _, _⟩, _, _, _, _⟩ _ _ _ _); refine RH.cP Try.call73 ?_; refine ⟨_, makeRelation_c _ k ts (by omega) (by omega) hln, ?_⟩; rintro _ _ ⟨s1, rfl, rfl⟩) | ((with_reducible show RH _ _ _ _ _ _ _ _); first | refine RH.val (hK := ?_) | refine RH.upd (hK := ?_)) | (with_reducible show RL _ _ _ (_ :: _) _ _ _; first | refine RL.guardYes rfl rfl rfl rfl ?_ | refine RL.guardNoS rfl rfl rfl rfl rfl rfl ?_ | refine RL.splitD rfl rfl rfl (fun h => ?_) (fun h => ?_)) | (with_reducible first | refine Run.seq ?_ | refine Run.region ?_ | refine Run.block ?_ | refine Run.skip ?_ | refine Run.exit ?_ | refine Run.ret ?_) | (with_reducible show Run _ _ (.cond _ _ _) _ _ _; first | refine Run.condT rfl ?_ | refine Run.condD rfl (fun h => ?_) (fun h => ?_)) | (with_reducible first | refine seqN (K := Run _ _ _ _) ?_ | refine seqE ?_ | refine seqR ?_ | refine blockR ?_ | refine blockE ?_))
      all_goals first
        | (exfalso; omega)
        | (refine ⟨eA, _, [hsl (tS tInt) (vsv s1) (putF ts)], resA, ?_, ?_⟩
           · exact SEnt.ch chA
           · exact relRes_yes (by rw [rofOk, hok, decide_eq_true hn, decide_eq_true ha, decide_eq_true h6]; rfl) s1)
  · refine Spec.of_run2 (n := 48) Try.func22 rfl Try.results22 Try.ntmps22 rfl ?_
    repeat' (first | (with_reducible first | refine RL.done ?_ | refine RL.app0 ?_) | (with_reducible refine RL.wanted ?_ ?_; exact rfl) | ((with_reducible show RH _ _ _ ⟨some 6, .alloc _, _, _, _, _⟩ _ _ _ _); refine RH.alloc rfl ?_; rintro _ _ ⟨b6, rfl, rfl⟩) | ((with_reducible show RH _ _ _ ⟨_, .call ⟨.value (.func 86), _, _⟩, _, _, _, _⟩ _ _ _ _); refine RH.cP Try.call86 ?_; refine ⟨_, isSize_c _, ?_⟩; rintro _ _ ⟨rfl, rfl⟩) | ((with_reducible show RH _ _ _ _ _ _ _ _); first | refine RH.val (hK := ?_) | refine RH.upd (hK := ?_)) | (with_reducible show RL _ _ _ (_ :: _) _ _ _; first | refine RL.guardYes rfl rfl rfl rfl ?_ | refine RL.guardNoS rfl rfl rfl rfl rfl rfl ?_ | refine RL.splitD rfl rfl rfl (fun h => ?_) (fun h => ?_) | refine RL.splitND rfl rfl rfl (fun h => ?_) (fun h => ?_)) | (with_reducible first | refine Run.seq ?_ | refine Run.region ?_ | refine Run.block ?_ | refine Run.skip ?_ | refine Run.ret ?_) | (with_reducible show Run _ _ (.cond _ _ _) _ _ _; first | refine Run.condT rfl ?_ | refine Run.condD rfl (fun h => ?_) (fun h => ?_)) | (with_reducible first | refine seqN (K := Run _ _ _ _) ?_ | refine seqR ?_))
    all_goals first
      | (refine ⟨eA, _, [hsl (tS tInt) (vsv (none, 0, 0)) []], resA, ?_, ?_⟩
         · exact (SEnt.ch .nil).trans (SEnt.nil _ _)
         · refine relRes_no ?_
           simp only [rofOk, Bool.and_eq_false_iff, decide_eq_false_iff_not]
           omega)
      | (exfalso; apply hh; simp_all; done)
      | (exfalso; apply hh; simp_all; omega)
end Go.Proofs.Ytiifdhdhjioefaa
