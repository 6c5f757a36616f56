/- Relations of rows: impl.cloneRows, sortedTuples, makeRelation; spec.RelationOf, impl.RelationOf: the same answer. Proved for this program; conditions: lengths below 2^42. -/
import Derived.Test.YtiifdhdhjioefaaRelW
import Derived.Test.YtiifdhdhjioefaaPatL
namespace Go.Proofs.Ytiifdhdhjioefaa
open Go Go.Proofs
set_option linter.unusedVariables false
/-- the answer: a relation of a set of rows, or nothing -/
def relAr (ok : Bool) (a : Int) : Int := if ok then a else 0
def relRows (ok : Bool) (xs : List (List Int)) : List (List Int) := if ok then xs else []
abbrev RelRes (ok : Bool) (a : Int) (xs : List (List Int)) (r : VP) (S' : List HP) : Prop :=
  ∃ s : Sv, r = vtup [vagg [vint (relAr ok a), vlit (vsv s)], vbool ok] ∧ S' = [hsl (tS tInt) (vsv s) (relRows ok xs)]
theorem relRes_no {ok : Bool} {a : Int} {xs : List (List Int)} (h : ok = false) : RelRes ok a xs (vtup [vagg [vint 0, vlit (.slice none 0 0)], vbool false]) [hsl (tS tInt) (vsv (none, 0, 0)) []] := by
  subst h; exact ⟨(none, 0, 0), rfl, rfl⟩
theorem relRes_yes {ok : Bool} {a : Int} {xs : List (List Int)} (h : ok = true) (s : Sv) : RelRes ok a xs (vtup [vagg [vint a, vlit (vsv s)], vbool true]) [hsl (tS tInt) (vsv s) xs] := by
  subst h; exact ⟨s, rfl, rfl⟩
theorem putF_len {k : Nat} {ts : List (List Int)} (ht : ∀ u ∈ ts, u.length = k) : ∀ u ∈ putF ts, u.length = k := fun u hu => ht u (((putF_str ht).2 u).1 hu)

set_option maxRecDepth 10000 in
set_option maxHeartbeats 1000000 in
theorem cloneRows_c (ts : List (List Int)) (hl : ts.length ≤ 1048576) (hr : ∀ t ∈ ts, t.length ≤ 1048576) :
    Spec Try.prog 177 [vsl 1 (fun t : List Int => [vsl 1 (fun x : Int => [vint x]) t]) ts] [] (fun r S' => ∃ s : Sv, r = vlit (vsv s) ∧ S' = [hsl (tS tInt) (vsv s) ts]) := by
  refine Spec.of_run2 (n := 20) Try.func177 rfl Try.results177 Try.ntmps177 rfl ?_
  repeat' (first | (with_reducible refine RL.done ?_) | (with_reducible refine RL.wanted ?_ ?_; exact rfl) | ((with_reducible show RH _ _ _ ⟨some 6, .buildSlice _ _ _, _, _, _, _⟩ _ _ _ _); (refine RH.eff rfl rfl (EOpS.e (EOpS.slitV (by ((repeat (first | exact Elts.nil | apply Elts.one1 rfl | apply Elts.agg2 rfl)); done)) (by simp) rfl rfl)) ?_; rintro _ _ ⟨b6, rfl, rfl⟩)) | ((with_reducible show RH _ _ _ _ _ _ _ _); refine RH.val (hK := ?_)) | (with_reducible first | refine Run.seq ?_ | refine Run.region ?_ | refine Run.block ?_) | (with_reducible refine seqN (K := Run _ _ _ _) ?_))
  refine Run.sent (T := [hsl (tS tInt) (vsv (some ⟨b6, 0, none⟩, 0, 0)) []]) (SEnt.packNil (tS tInt) rfl) ?_
  refine Run.loop (α := Nat × Sv) (fun z => [(3, vlit (vsv z.2)), (7, vsl 1 (fun t : List Int => [vsl 1 (fun x : Int => [vint x]) t]) ts), (8, vint (ts.length : Int)), (9, vint (z.1 : Int))]) (fun z => [hsl (tS tInt) (vsv z.2) (ts.take z.1)]) (fun z => z.1 ≤ ts.length) (fun z => ts.length - z.1) (0, (some ⟨b6, 0, none⟩, 0, 0)) (Nat.zero_le _) (Ent.of (by dsimp only; exact slA) (.cons .head (by simp) chA)) ?_
  rintro ⟨m, s⟩ hm
  (try dsimp only at hm ⊢)
  have hle2 : (ts.take m).length = m := by rw [List.length_take]; omega
  repeat' (first | (with_reducible first | refine RL.done ?_ | refine RL.app1 ?_) | (with_reducible refine RL.wanted ?_ ?_; exact rfl) | ((with_reducible show RH _ _ _ ⟨some 16, .buildSlice _ _ _, _, _, _, _⟩ _ _ _ _); (refine RH.eff rfl rfl (EOpS.e (EOpS.slitV (by ((repeat (first | exact Elts.nil | apply Elts.one1 rfl | apply Elts.agg2 rfl)); done)) (by simp) rfl rfl)) ?_; rintro _ _ ⟨b16, rfl, rfl⟩)) | ((with_reducible show RH _ _ _ ⟨_, .call ⟨.value (.func 77), _, _⟩, _, _, _, _⟩ _ _ _ _); refine RH.cP Try.call77 ?_; refine ⟨_, clone_c _ (Nat.le_trans (hr _ (List.getElem_mem _)) (by decide)), ?_⟩; rintro _ _ ⟨s1, rfl, rfl⟩) | ((with_reducible show RH _ _ _ ⟨_, .call ⟨.builtin .append, _, _⟩, _, _, _, _⟩ _ _ _ _); (refine RH.appR rfl rfl rfl (by repeat (first | exact Pick.nil | (apply Pick.cons; (with_reducible repeat (first | exact Rem.head | apply Rem.tail))))) (by first | omega | (simp; omega)) (by first | omega | (simp; omega)) ?_); rintro _ _ ⟨s, rfl, rfl⟩) | ((with_reducible show RH _ _ _ _ _ _ _ _); refine RH.val (hK := ?_)) | (with_reducible first | refine Run.seq ?_ | refine Run.region ?_ | refine Run.block ?_ | refine Run.skip ?_ | refine Run.exit ?_ | refine Run.ret ?_) | (with_reducible show Run _ _ (.cond _ _ _) _ _ _; refine Run.condD rfl (fun h => ?_) (fun h => ?_)) | (with_reducible first | refine seqN (K := Run _ _ _ _) ?_ | refine seqE ?_ | refine blockN ?_ | refine blockE ?_))
  · with_reducible refine seqN ?_
    have hd : ts.take (m + 1) = ts.take m ++ [ts[m]] := by rw [List.take_add_one, List.getElem?_eq_getElem (by omega)]; rfl
    exact ⟨(m + 1, _), by dsimp only; omega, by dsimp only; omega, Ent.of (by dsimp only; exact slA) (by dsimp only; rw [hd]; exact chA)⟩
  · obtain rfl : m = ts.length := by omega
    refine ⟨eA, _, [hsl (tS tInt) (vsv s) ts], resA, ?_, ?_⟩
    · exact SEnt.ch (.cons .head (by rw [List.take_length]) .nil)
    · exact ⟨s, rfl, rfl⟩
set_option maxRecDepth 10000 in
set_option maxHeartbeats 1000000 in
theorem sortedTuples_c (ts : List (List Int)) (hl : ts.length ≤ 1000000) (hr : ∀ t ∈ ts, t.length ≤ 1048576) :
    Spec Try.prog 137 [vsl 1 (fun t : List Int => [vsl 1 (fun x : Int => [vint x]) t]) ts] [] (fun r S' => ∃ (s : Sv) (ys : List (List Int)), r = vlit (vsv s) ∧ S' = [hsl (tS tInt) (vsv s) ys] ∧ Mrg leL 0 ts.length ts ys) := by
  have hf : Few ts := fun t ht => Nat.le_trans (hr t ht) (by decide)
  refine Spec.of_run2 (n := 9) Try.func137 rfl Try.results137 Try.ntmps137 rfl ?_
  repeat' (first | (with_reducible first | refine RL.done ?_ | refine RL.app1 ?_) | (with_reducible refine RL.wanted ?_ ?_; exact rfl) | ((with_reducible show RH _ _ _ ⟨_, .call ⟨.value (.func 177), _, _⟩, _, _, _, _⟩ _ _ _ _); refine RH.cP Try.call177 ?_; refine ⟨_, cloneRows_c ts (by omega) hr, ?_⟩; rintro _ _ ⟨s1, rfl, rfl⟩) | ((with_reducible show RH _ _ _ ⟨_, .call ⟨.value (.func 178), _, _⟩, _, _, _, _⟩ _ _ _ _); refine RH.cW Try.call178 ?_; refine ⟨_, _, _, (by repeat (first | exact Pick.nil | (apply Pick.cons; (with_reducible repeat (first | exact Rem.head | apply Rem.tail))))), sortRows_c s1 ts hf hl, ?_⟩; rintro _ _ ⟨ys, rfl, rfl, hm⟩; refine RL.nm ?_) | ((with_reducible show RH _ _ _ _ _ _ _ _); refine RH.val (hK := ?_)) | (with_reducible first | refine Run.seq ?_ | refine Run.region ?_ | refine Run.ret ?_) | (with_reducible refine seqN (K := Run _ _ _ _) ?_))
  refine ⟨eA, _, [hsl (tS tInt) (vsv s1) ys], resA, ?_, ?_⟩
  · exact SEnt.ch chA
  · exact ⟨s1, ys, rfl, rfl, hm⟩
set_option maxRecDepth 10000 in
set_option maxHeartbeats 1000000 in
theorem makeRelation_c (a : Int) (k : Nat) (ts : List (List Int)) (hl : ts.length ≤ 1000000) (hk : k ≤ 1048576) (ht : ∀ u ∈ ts, u.length = k) :
    Spec Try.prog 73 [vint a, vsl 1 (fun t : List Int => [vsl 1 (fun x : Int => [vint x]) t]) ts] [] (fun r S' => ∃ s : Sv, r = vagg [vint a, vlit (vsv s)] ∧ S' = [hsl (tS tInt) (vsv s) (putF ts)]) := by
  have hr : ∀ t ∈ ts, t.length ≤ 1048576 := fun t h => by rw [ht t h]; exact hk
  refine Spec.of_run2 (n := 10) Try.func73 rfl Try.results73 Try.ntmps73 rfl ?_
  repeat' (first | (with_reducible first | refine RL.done ?_ | refine RL.app1 ?_) | (with_reducible refine RL.wanted ?_ ?_; exact rfl) | ((with_reducible show RH _ _ _ ⟨some 4, .alloc _, _, _, _, _⟩ _ _ _ _); refine RH.alloc rfl ?_; rintro _ _ ⟨b4, rfl, rfl⟩) | ((with_reducible show RH _ _ _ ⟨_, .call ⟨.value (.func 137), _, _⟩, _, _, _, _⟩ _ _ _ _); refine RH.cP Try.call137 ?_; refine ⟨_, sortedTuples_c ts hl hr, ?_⟩; rintro _ _ ⟨s1, ys, rfl, rfl, hm⟩) | ((with_reducible show RH _ _ _ ⟨_, .call ⟨.value (.func 136), _, _⟩, _, _, _, _⟩ _ _ _ _); refine RH.cW Try.call136 ?_; refine ⟨_, _, _, (by repeat (first | exact Pick.nil | (apply Pick.cons; (with_reducible repeat (first | exact Rem.head | apply Rem.tail))))), different_c s1 ys (by have := hm.mv.len; omega) (fun t ht => Nat.le_trans (hr t (hm.mv.perm.mem_iff.2 ht)) (by decide)), ?_⟩; rintro _ _ ⟨s2, rfl, rfl⟩; refine RL.nm ?_) | ((with_reducible show RH _ _ _ _ _ _ _ _); first | refine RH.val (hK := ?_) | refine RH.upd (hK := ?_)) | (with_reducible first | refine Run.seq ?_ | refine Run.region ?_ | refine Run.ret ?_) | (with_reducible refine seqN (K := Run _ _ _ _) ?_))
  refine ⟨eA, _, [hsl (tS tInt) (vsv s2) (putF ts)], resA, ?_, ?_⟩
  · exact SEnt.ch (.cons .head (by rw [dif_put ht hm]) .nil)
  · exact ⟨s2, rfl, rfl⟩
end Go.Proofs.Ytiifdhdhjioefaa
