/- laws.FnDefinitions answers true. Proved for this program; no conditions. -/
import Derived.Test.YtiifdhdhjioefaaRlsC
import Derived.Test.YtiifdhdhjioefaaDfnP
import Derived.Test.YtiifdhdhjioefaaDrM
import Derived.Test.YtiifdhdhjioefaaDrN
import Derived.Test.YtiifdhdhjioefaaDefS
import Derived.Test.YtiifdhdhjioefaaDefR
import Derived.Test.YtiifdhdhjioefaaKeep
import Derived.Test.YtiifdhdhjioefaaGraph
namespace Go.Proofs.Ytiifdhdhjioefaa
open Go Go.Proofs
set_option linter.unusedVariables false
abbrev defX (n v : Int) (R : List (Int × List (List Int))) (A : List (Int × List Int)) (F : List Int) : List (List Int) := putF (defL n v.toNat R A F (pw n v.toNat).toNat)
theorem defXB {n v : Int} {R : List (Int × List (List Int))} {A : List (Int × List Int)} {F : List Int} : (relRows (defB n R v A F) (defX n v R A F)).length ≤ 4398046511104 ∧ ∀ t ∈ relRows (defB n R v A F) (defX n v R A F), t.length ≤ 4611686018427387904 := relRows_bnd (n := n) (a := (F.length : Int)) def_rel
theorem defIn {n v : Int} {R : List (Int × List (List Int))} {A : List (Int × List Int)} {F : List Int} (m : Nat) (h : defB n R v A F = true) {t : List Int} (ht : t ∈ relRows (defB n R v A F) (defX n v R A F)) :
    Spec Try.prog 17 [vint n, vagg [vint (relAr (defB n R v (A.take m) F) (F.length : Int)), vsl 1 (fun t : List Int => [vsl 1 (fun x : Int => [vint x]) t]) (relRows (defB n R v (A.take m) F) (defX n v R (A.take m) F))], vsl 1 (fun x : Int => [vint x]) t] [] (fun r S' => r = vtup [vbool true, vbool true] ∧ S' = []) := by
  have h2 := def_less m h
  rw [h] at ht
  rw [h2]
  exact hasIn_c n _ _ t (relB_bnd (def_rel h2)) (def_rel h2) (def_more ht)
theorem defK {n v a : Int} {T : List Int} {R : List (Int × List (List Int))} {A : List (Int × List Int)} {F : List Int} (hd : defB n R v A F = true) (hall : ∀ y ∈ R, keepV n a T y.1 y.2 = true)
    (hask : askB n a T (relAr (defB n R v A F) (F.length : Int)) (relRows (defB n R v A F) (defX n v R A F)) = true) : keepV n a T (relAr (defB n R v A F) (F.length : Int)) (relRows (defB n R v A F) (defX n v R A F)) = true := by
  rw [hd] at hask ⊢
  have ho := hask
  simp only [askB, Bool.and_eq_true] at ho
  exact def_keeps hd ho.1.2 hall hask
theorem graph_len {n a : Int} {tb : List Int} (h : graphOk n a tb) : (graphRows n a tb).length = tb.length := by
  rw [graphRows, if_pos h, graphTo_length]
theorem graphB {n a : Int} {tb : List Int} (hl : tb.length ≤ 600) : (graphRows n a tb).length ≤ 4398046511104 ∧ ∀ t ∈ graphRows n a tb, t.length ≤ 4611686018427387904 := by
  by_cases h : graphOk n a tb
  · refine ⟨by rw [graph_len h]; omega, fun t ht => ?_⟩
    rw [graphRows, if_pos h] at ht
    have := graphTo_row _ _ _ _ t ht
    have := opB_ar h.2.1
    omega
  · rw [graphRows, if_neg h]
    exact ⟨by simp, fun t ht => by cases ht⟩
theorem rels_at {R : List (Int × List (List Int))} (hRS : ∀ y ∈ R, RelDrS y) {i : Nat} (h : i < R.length) : R[i].2.length ≤ 4611686018427387904 ∧ ∀ t ∈ R[i].2, t.length ≤ 4611686018427387904 := by
  obtain ⟨h1, h2, _⟩ := hRS _ (List.getElem_mem h)
  exact ⟨by omega, fun t ht => by have := h2 t ht; omega⟩
theorem def_sz {n : Int} {R : List (Int × List (List Int))} {A : List (Int × List Int)} {F : List Int} (hR3 : R.length ≤ 3) (hRS : ∀ y ∈ R, RelDrS y) (hA : A.length ≤ 12) (hAS : ∀ y ∈ A, AtDrS y) (hF : F.length ≤ 4) : DefSz n R A F :=
  ⟨by omega, fun y hy => ⟨by have := (hRS y hy).1; omega, fun t ht => by have := (hRS y hy).2.1 t ht; omega⟩, by omega, fun u hu => by have : u.2.length ≤ 4 := hAS u hu; omega, by omega⟩
theorem def_szt {n : Int} {R : List (Int × List (List Int))} {A : List (Int × List Int)} {F : List Int} (m : Nat) (h : DefSz n R A F) : DefSz n R (A.take m) F :=
  ⟨h.1, h.2.1, by have := h.2.2.1; rw [List.length_take]; omega, fun u hu => h.2.2.2.1 u (List.mem_of_mem_take hu), h.2.2.2.2⟩
theorem w62d {α : Type} {l : List α} (h : l.length ≤ 4398046511104) : l.length ≤ 4611686018427387904 := by omega
set_option maxRecDepth 10000 in
set_option maxHeartbeats 8000000 in
theorem law_c (code : List Int) (g0 : code.length ≤ 9223372036854775807 ∧ ∀ x ∈ code, 0 ≤ x ∧ x ≤ 255) : Spec Try.prog 4 [vbytes code] [] (fun r S' => r = vbool true ∧ S' = []) := by
  refine Spec.of_run2 (n := 200) Try.func4 rfl Try.results4 Try.ntmps4 rfl ?_
  repeat' (first | (with_reducible first | refine RL.done ?_ | refine RL.app0 ?_) | (with_reducible refine RL.wanted ?_ ?_; exact rfl) | ((with_reducible show RH _ _ _ ⟨_, .call ⟨.value (.func 8), _, _⟩, _, _, _, _⟩ _ _ _ _); refine RH.cP Try.call8 ?_; refine ⟨_, vBig_c code, ?_⟩; rintro _ _ ⟨rfl, rfl⟩) | ((with_reducible show RH _ _ _ _ _ _ _ _); refine RH.val (hK := ?_)) | (with_reducible first | refine Run.seq ?_ | refine Run.region ?_ | refine Run.skip ?_ | refine Run.ret ?_) | (with_reducible show Run _ _ (.cond _ _ _) _ _ _; refine Run.condD rfl (fun h => ?_) (fun h => ?_)) | (with_reducible first | refine seqN (K := Run _ _ _ _) ?_ | refine seqR ?_))
  all_goals first
    | (refine ⟨eA, _, [], resA, .ch .nil, ?_⟩; exact ⟨rfl, rfl⟩)
    | skip
  have hc : Byts code := ⟨g0.2, by omega⟩
  repeat' (first | (with_reducible first | refine RL.done ?_ | refine RL.app0 ?_) | (with_reducible refine RL.wanted ?_ ?_; exact rfl) | ((with_reducible show Run _ _ (.cond (.tmp 74) _ _) (Post.seq _ _) _ _); refine Run.cut (α := Unit) (fun _ => [(0, vbytes code), (3, vint n), (4, vsl 2 (fun y : Int × (List (List Int)) => [vint y.1, vsl 1 (fun t : List Int => [vsl 1 (fun x : Int => [vint x]) t]) y.2]) R), (8, vptr b8 0), (9, vbool (defB n R v A F))]) (fun _ => [hcells b8 [vint (relAr (defB n R v A F) (F.length : Int)), vsl 1 (fun t : List Int => [vsl 1 (fun x : Int => [vint x]) t]) (relRows (defB n R v A F) (defX n v R A F))]]) (fun _ => True) ?_ ?_; rotate_left; rintro _ -; (try dsimp only)) | ((with_reducible show Run _ _ (.cond (.tmp 125) _ _) (Post.seq _ _) _ _); refine Run.cut (α := Unit) (fun _ => [(0, vbytes code)]) (fun _ => []) (fun _ => True) ?_ ?_; rotate_left; rintro _ -; (try dsimp only)) | ((with_reducible show RH _ _ _ ⟨some 8, .alloc _, _, _, _, _⟩ _ _ _ _); refine RH.alloc rfl ?_; rintro _ _ ⟨b8, rfl, rfl⟩) | ((with_reducible show RH _ _ _ ⟨some 10, .alloc _, _, _, _, _⟩ _ _ _ _); refine RH.alloc rfl ?_; rintro _ _ ⟨b10, rfl, rfl⟩) | ((with_reducible show RH _ _ _ ⟨some 12, .alloc _, _, _, _, _⟩ _ _ _ _); refine RH.alloc rfl ?_; rintro _ _ ⟨b12, rfl, rfl⟩) | ((with_reducible show RH _ _ _ ⟨some 18, .alloc _, _, _, _, _⟩ _ _ _ _); refine RH.alloc rfl ?_; rintro _ _ ⟨b18, rfl, rfl⟩) | ((with_reducible show RH _ _ _ ⟨some 19, .alloc _, _, _, _, _⟩ _ _ _ _); refine RH.alloc rfl ?_; rintro _ _ ⟨b19, rfl, rfl⟩) | ((with_reducible show RH _ _ _ ⟨some 27, .alloc _, _, _, _, _⟩ _ _ _ _); refine RH.alloc rfl ?_; rintro _ _ ⟨b27, rfl, rfl⟩) | ((with_reducible show RH _ _ _ ⟨some 28, .alloc _, _, _, _, _⟩ _ _ _ _); refine RH.alloc rfl ?_; rintro _ _ ⟨b28, rfl, rfl⟩) | ((with_reducible show RH _ _ _ ⟨some 30, .alloc _, _, _, _, _⟩ _ _ _ _); refine RH.alloc rfl ?_; rintro _ _ ⟨b30, rfl, rfl⟩) | ((with_reducible show RH _ _ _ ⟨_, .call ⟨.value (.func 30), _, _⟩, _, _, _, _⟩ _ _ _ _); refine RH.cP Try.call30 ?_; refine ⟨_, drDef_c code hc, ?_⟩; rintro _ _ ⟨n, v, R, A, F, rfl, rfl, hn, hv, ⟨hR3, hRS⟩, ⟨hA, hAS⟩, hF⟩) | ((with_reducible show RH _ _ _ ⟨_, .call ⟨.value (.func 31), _, _⟩, _, _, _, _⟩ _ _ _ _); refine RH.cP Try.call31 ?_; refine ⟨_, Spec.frzAg (implDef_c n v R (A.take _) F (by constructor <;> omega) (def_szt _ (def_sz hR3 hRS hA hAS hF))), ?_⟩; rintro _ _ ⟨rfl, rfl⟩) | ((with_reducible show RH _ _ _ ⟨_, .call ⟨.value (.func 31), _, _⟩, _, _, _, _⟩ _ _ _ _); refine RH.cP Try.call31 ?_; refine ⟨_, Spec.frzAg (implDef_c n v R A F (by constructor <;> omega) (def_sz hR3 hRS hA hAS hF)), ?_⟩; rintro _ _ ⟨rfl, rfl⟩) | ((with_reducible show RH _ _ _ ⟨_, .call ⟨.value (.func 32), _, _⟩, _, _, _, _⟩ _ _ _ _); refine RH.cP Try.call32 ?_; refine ⟨_, Spec.frzAg (specDef_c n v R A F (by constructor <;> omega) (def_sz hR3 hRS hA hAS hF)), ?_⟩; rintro _ _ ⟨rfl, rfl⟩) | ((with_reducible show RH _ _ _ ⟨_, .call ⟨.value (.func 12), _, _⟩, _, _, _, _⟩ _ _ _ _); refine RH.cP Try.call12 ?_; refine ⟨_, vRelation_c (relAr (defB n R v A F) (F.length : Int)) _ (w62d defXB.1) defXB.2, ?_⟩; rintro _ _ ⟨rfl, rfl⟩) | ((with_reducible show RH _ _ _ ⟨_, .call ⟨.value (.func 33), _, _⟩, _, _, _, _⟩ _ _ _ _); refine RH.cP Try.call33 ?_; refine ⟨_, drKeep_c code hc, ?_⟩; rintro _ _ ⟨m, a, b3, T, X3, rfl, rfl, hm, hT⟩) | ((with_reducible show RH _ _ _ ⟨_, .call ⟨.value (.func 35), _, _⟩, _, _, _, _⟩ _ _ _ _); refine RH.cP Try.call35 ?_; refine ⟨_, drGraph_c code hc, ?_⟩; rintro _ _ ⟨n2, a2, T2, rfl, rfl, hn2, hT2⟩) | ((with_reducible show RH _ _ _ ⟨_, .call ⟨.value (.func 36), _, _⟩, _, _, _, _⟩ _ _ _ _); refine RH.cP Try.call36 ?_; refine ⟨_, Spec.frzAg (implGraphOf_c n2 a2 T2 (by omega)), ?_⟩; rintro _ _ ⟨rfl, rfl⟩) | ((with_reducible show RH _ _ _ ⟨_, .call ⟨.value (.func 37), _, _⟩, _, _, _, _⟩ _ _ _ _); refine RH.cP Try.call37 ?_; refine ⟨_, Spec.frzAg (specGraphOf_c n2 a2 T2 (by omega)), ?_⟩; rintro _ _ ⟨rfl, rfl⟩) | ((with_reducible show RH _ _ _ ⟨_, .call ⟨.value (.func 12), _, _⟩, _, _, _, _⟩ _ _ _ _); refine RH.cP Try.call12 ?_; refine ⟨_, vRelation_c (graphAr n2 a2 T2) _ (w62d (graphB hT2).1) (graphB hT2).2, ?_⟩; rintro _ _ ⟨rfl, rfl⟩) | ((with_reducible show RH _ _ _ _ _ _ _ _); first | refine RH.val (hK := ?_) | refine RH.upd (hK := ?_)) | (with_reducible show RL _ _ _ (_ :: _) _ _ _; first | refine RL.guardYes rfl rfl rfl rfl ?_ | refine RL.guardNoS rfl rfl rfl rfl rfl rfl ?_ | refine RL.splitD rfl rfl rfl (fun h => ?_) (fun h => ?_) | refine RL.splitND rfl rfl rfl (fun h => ?_) (fun h => ?_) | refine RL.split rfl rfl rfl (fun h => ?_) (fun h => ?_)) | (with_reducible first | refine Run.seq ?_ | refine Run.region ?_ | refine Run.block ?_ | refine Run.skip ?_ | refine Run.ret ?_) | (with_reducible show Run _ _ (.cond _ _ _) _ _ _; first | refine Run.condT rfl ?_ | refine Run.condF rfl ?_ | refine Run.condD rfl (fun h => ?_) (fun h => ?_) | refine Run.condNB rfl (fun h => ?_) (fun h => ?_)) | (with_reducible first | refine seqN (K := Run _ _ _ _) ?_ | refine seqR ?_))
  all_goals first
    | (exfalso; omega)
    | (exfalso; simp_all; done)
    | (show Met _ _ _ Exit.normal _ _; first | exact Met.mk () trivial (Ent.of slA .nil) | exact Met.mk () trivial (Ent.of slA chA))
    | (show Met _ _ _ Exit.ret _ _; exfalso; have h9 := def_less ((A.length : Int) - 1).toNat (show defB n R v A F = true by assumption); simp_all; done)
    | (show _ ∧ ∃ rs S2, Res _ ((2, vlit (Value.bool true)) :: _) _ _ rs ∧ _
       refine ⟨eA, _, [], resA, .ch .nil, ?_⟩; exact ⟨rfl, rfl⟩)
    | (show _ ∧ ∃ rs S2, Res _ ((2, vlit (Value.bool false)) :: (199, _) :: _) _ _ rs ∧ _
       exfalso
       have h9 := graph_len (show graphOk n2 a2 T2 by assumption)
       omega)
    | skip
  · refine Run.loop (α := Nat × Bool) (fun x => [(0, vbytes code), (3, vint n), (4, vsl 2 (fun y : Int × (List (List Int)) => [vint y.1, vsl 1 (fun t : List Int => [vsl 1 (fun x : Int => [vint x]) t]) y.2]) R), (8, vptr b8 0), (18, vptr b18 0), (20, vbool x.2), (21, vint (x.1 : Int))])
      (fun _ => [hcells b18 [vint a, vsl 1 (fun x : Int => [vint x]) T], hcells b8 [vint (relAr (defB n R v A F) (F.length : Int)), vsl 1 (fun t : List Int => [vsl 1 (fun x : Int => [vint x]) t]) (relRows (defB n R v A F) (defX n v R A F))]]) (fun x => x.1 ≤ R.length ∧ (x.2 = true → ∀ y ∈ R.take x.1, keepV n a T y.1 y.2 = true)) (fun x => R.length - x.1) (0, true) ⟨Nat.zero_le _, fun _ y hy => by simp at hy⟩ (Ent.of slA chA) ?_
    rintro ⟨i, o⟩ ⟨hi, hall⟩
    dsimp only at hi hall ⊢
    have hd : defB n R v A F = true := by assumption
    rcases Nat.lt_or_eq_of_le hi with h9 | h9
    · have htk : R.take (i + 1) = R.take i ++ [R[i]] := by rw [List.take_add_one, List.getElem?_eq_getElem h9]; rfl
      repeat' (first | (with_reducible first | refine RL.done ?_ | refine RD.app0 ?_) | (with_reducible refine RL.wanted ?_ ?_; exact rfl) | ((with_reducible show Run _ _ (.region 24 _ true) _ _ _); refine Run.regionD (fun i => false) rfl ?_; change RD _ _ _ _ _ _ 12 (dm 12 0) _ _) | ((with_reducible show RD _ _ 24 _ _ _ _ _ _ _); first | ((with_reducible show RD _ _ _ _ _ _ _ (dm 12 0) _ _); refine RD.tk 0 (dm 12 4032) (dm 12 1) (hK := ?_)) | ((with_reducible show RD _ _ _ _ _ _ _ (dm 12 1) _ _); refine RD.tk 1 (dm 12 4032) (dm 12 3) (hK := ?_)) | ((with_reducible show RD _ _ _ _ _ _ _ (dm 12 3) _ _); refine RD.tk 2 (dm 12 4080) (dm 12 7) (hK := ?_)) | ((with_reducible show RD _ _ _ _ _ _ _ (dm 12 7) _ _); refine RD.tk 3 (dm 12 4080) (dm 12 15) (hK := ?_)) | ((with_reducible show RD _ _ _ _ _ _ _ (dm 12 15) _ _); refine RD.tk 4 (dm 12 4064) (dm 12 31) (hK := ?_)) | ((with_reducible show RD _ _ _ _ _ _ _ (dm 12 31) _ _); refine RD.tk 5 (dm 12 4032) (dm 12 63) (hK := ?_)) | ((with_reducible show RD _ _ _ _ _ _ _ (dm 12 63) _ _); refine RD.a1 6 ?_) | ((with_reducible show RD _ _ _ _ _ _ _ (dm 12 127) _ _); refine RD.tk 7 (dm 12 3840) (dm 12 255) (hK := ?_)) | ((with_reducible show RD _ _ _ _ _ _ _ (dm 12 255) _ _); refine RD.tk 8 (dm 12 3072) (dm 12 511) (hK := ?_)) | ((with_reducible show RD _ _ _ _ _ _ _ (dm 12 511) _ _); refine RD.tk 9 (dm 12 2048) (dm 12 1023) (hK := ?_)) | ((with_reducible show RD _ _ _ _ _ _ _ (dm 12 1023) _ _); refine RD.tk 10 (dm 12 2048) (dm 12 2047) (hK := ?_)) | ((with_reducible show RD _ _ _ _ _ _ _ (dm 12 2047) _ _); refine RD.tk 11 (dm 12 0) (dm 12 4095) (hK := ?_)) | ((with_reducible show RD _ _ _ _ _ _ 0 _ _ _); refine RD.done (by kernel_rfl) ?_)) | ((with_reducible show RO _ _ 24 _ _ _ _ _ _ _ _); ((with_reducible show RO _ _ _ _ _ _ _ (dm 12 63) 6 _ _); (refine RO.cP (dm 12 127) Try.call34 ?_; refine ⟨_, implDoesKeep_c n a T R[i].1 R[i].2 (by omega) (rels_at hRS h9).1 (rels_at hRS h9).2, ?_⟩; rintro _ _ ⟨rfl, rfl⟩))) | ((with_reducible show RH _ _ _ _ _ _ _ _); refine RH.val (hK := ?_)) | (with_reducible show RL _ _ _ (_ :: _) _ _ _; first | refine RL.guardYes rfl rfl rfl rfl ?_ | refine RL.guardNoS rfl rfl rfl rfl rfl rfl ?_ | refine RL.split rfl rfl rfl (fun h => ?_) (fun h => ?_)) | (with_reducible first | refine Run.seq ?_ | refine Run.region ?_ | refine Run.block ?_ | refine Run.skip ?_ | refine Run.exit ?_) | (with_reducible show Run _ _ (.cond _ _ _) _ _ _; refine Run.condD rfl (fun h => ?_) (fun h => ?_)) | (with_reducible first | refine seqN (K := Run _ _ _ _) ?_ | refine seqE ?_ | refine blockN ?_ | refine blockE ?_))
      all_goals first
        | (exfalso; omega)
        | (with_reducible refine seqN ?_
           refine ⟨(i + 1, _), ⟨by dsimp only; omega, ?_⟩, by dsimp only; omega, Ent.of slA chA⟩
           intro hx y hy
           dsimp only at hx hy
           rw [htk] at hy
           rcases List.mem_append.1 hy with hy | hy
           · exact hall (by first | assumption | (simp_all; done)) y hy
           · cases List.mem_singleton.1 hy
             first | exact hx | assumption | (simp_all; done))
        | trace_state
    · subst h9
      rw [List.take_length] at hall
      repeat' (first | (with_reducible first | refine RL.done ?_ | refine RL.app0 ?_) | (with_reducible refine RL.wanted ?_ ?_; exact rfl) | ((with_reducible show RH _ _ _ ⟨_, .call ⟨.value (.func 34), _, _⟩, _, _, _, _⟩ _ _ _ _); refine RH.cP Try.call34 ?_; refine ⟨_, implDoesKeep_c n a T (relAr (defB n R v A F) (F.length : Int)) _ (by omega) (w62d defXB.1) defXB.2, ?_⟩; rintro _ _ ⟨rfl, rfl⟩) | ((with_reducible show RH _ _ _ _ _ _ _ _); refine RH.val (hK := ?_)) | (with_reducible show RL _ _ _ (_ :: _) _ _ _; first | refine RL.guardYes rfl rfl rfl rfl ?_ | refine RL.guardNoS rfl rfl rfl rfl rfl rfl ?_ | refine RL.split rfl rfl rfl (fun h => ?_) (fun h => ?_)) | (with_reducible first | refine Run.seq ?_ | refine Run.region ?_ | refine Run.block ?_ | refine Run.skip ?_ | refine Run.exit ?_ | refine Run.ret ?_) | (with_reducible show Run _ _ (.cond _ _ _) _ _ _; first | refine Run.condF rfl ?_ | refine Run.condD rfl (fun h => ?_) (fun h => ?_) | refine Run.condNB rfl (fun h => ?_) (fun h => ?_)) | (with_reducible first | refine seqN (K := Run _ _ _ _) ?_ | refine seqE ?_ | refine blockE ?_))
      all_goals first
        | (exfalso; omega)
        | (show Met _ _ _ Exit.normal _ _; exact Met.mk () trivial (Ent.of slA .nil))
        | (show Met _ _ _ Exit.ret _ _
           exfalso
           have h8 := defK hd (hall (by assumption)) (by assumption)
           simp_all; done)
        | trace_state
  · refine Run.loop (α := Nat) (fun i => [(0, vbytes code), (3, vint n), (4, vsl 2 (fun y : Int × (List (List Int)) => [vint y.1, vsl 1 (fun t : List Int => [vsl 1 (fun x : Int => [vint x]) t]) y.2]) R), (8, vptr b8 0), (9, vbool (defB n R v A F)), (12, vptr b12 0), (14, vint (i : Int))])
      (fun _ => [hcells b12 [vint (relAr (defB n R v (A.take ((A.length : Int) - 1).toNat) F) (F.length : Int)), vsl 1 (fun t : List Int => [vsl 1 (fun x : Int => [vint x]) t]) (relRows (defB n R v (A.take ((A.length : Int) - 1).toNat) F) (defX n v R (A.take ((A.length : Int) - 1).toNat) F))], hcells b8 [vint (relAr (defB n R v A F) (F.length : Int)), vsl 1 (fun t : List Int => [vsl 1 (fun x : Int => [vint x]) t]) (relRows (defB n R v A F) (defX n v R A F))]]) (fun i => i ≤ (relRows (defB n R v A F) (defX n v R A F)).length) (fun i => (relRows (defB n R v A F) (defX n v R A F)).length - i) 0 (Nat.zero_le _) (Ent.of slA chA) ?_
    intro i hi
    have hd : defB n R v A F = true := by assumption
    have hmb := (defXB (n := n) (v := v) (R := R) (A := A) (F := F)).1
    rcases Nat.lt_or_eq_of_le hi with h9 | h9
    · repeat' (first | (with_reducible first | refine RL.done ?_ | refine RD.app0 ?_) | (with_reducible refine RL.wanted ?_ ?_; exact rfl) | ((with_reducible show Run _ _ (.region 15 _ true) _ _ _); refine Run.regionD (fun i => false) rfl ?_; change RD _ _ _ _ _ _ 13 (dm 13 0) _ _) | ((with_reducible show RD _ _ 15 _ _ _ _ _ _ _); first | ((with_reducible show RD _ _ _ _ _ _ _ (dm 13 0) _ _); refine RD.tk 0 (dm 13 8064) (dm 13 1) (hK := ?_)) | ((with_reducible show RD _ _ _ _ _ _ _ (dm 13 1) _ _); refine RD.tk 1 (dm 13 8064) (dm 13 3) (hK := ?_)) | ((with_reducible show RD _ _ _ _ _ _ _ (dm 13 3) _ _); refine RD.tk 2 (dm 13 8168) (dm 13 7) (hK := ?_)) | ((with_reducible show RD _ _ _ _ _ _ _ (dm 13 7) _ _); refine RD.tk 3 (dm 13 8160) (dm 13 15) (hK := ?_)) | ((with_reducible show RD _ _ _ _ _ _ _ (dm 13 15) _ _); refine RD.tk 4 (dm 13 8160) (dm 13 31) (hK := ?_)) | ((with_reducible show RD _ _ _ _ _ _ _ (dm 13 31) _ _); refine RD.tk 5 (dm 13 8128) (dm 13 63) (hK := ?_)) | ((with_reducible show RD _ _ _ _ _ _ _ (dm 13 63) _ _); refine RD.tk 6 (dm 13 8064) (dm 13 127) (hK := ?_)) | ((with_reducible show RD _ _ _ _ _ _ _ (dm 13 127) _ _); refine RD.a1 7 ?_) | ((with_reducible show RD _ _ _ _ _ _ _ (dm 13 255) _ _); refine RD.tk 8 (dm 13 7680) (dm 13 511) (hK := ?_)) | ((with_reducible show RD _ _ _ _ _ _ _ (dm 13 511) _ _); refine RD.tk 9 (dm 13 6144) (dm 13 1023) (hK := ?_)) | ((with_reducible show RD _ _ _ _ _ _ _ (dm 13 1023) _ _); refine RD.tk 10 (dm 13 4096) (dm 13 2047) (hK := ?_)) | ((with_reducible show RD _ _ _ _ _ _ _ (dm 13 2047) _ _); refine RD.tk 11 (dm 13 4096) (dm 13 4095) (hK := ?_)) | ((with_reducible show RD _ _ _ _ _ _ _ (dm 13 4095) _ _); refine RD.tk 12 (dm 13 0) (dm 13 8191) (hK := ?_)) | ((with_reducible show RD _ _ _ _ _ _ 0 _ _ _); refine RD.done (by kernel_rfl) ?_)) | ((with_reducible show RO _ _ 15 _ _ _ _ _ _ _ _); ((with_reducible show RO _ _ _ _ _ _ _ (dm 13 127) 7 _ _); (refine RO.cP (dm 13 255) Try.call17 ?_; refine ⟨_, defIn _ (show defB n R v A F = true by assumption) (List.getElem_mem h9), ?_⟩; rintro _ _ ⟨rfl, rfl⟩))) | ((with_reducible show RH _ _ _ _ _ _ _ _); refine RH.val (hK := ?_)) | (with_reducible show RL _ _ _ (_ :: _) _ _ _; refine RL.guardYes rfl rfl rfl rfl ?_) | (with_reducible first | refine Run.seq ?_ | refine Run.region ?_ | refine Run.block ?_ | refine Run.skip ?_ | refine Run.exit ?_) | (with_reducible show Run _ _ (.cond _ _ _) _ _ _; first | refine Run.condF rfl ?_ | refine Run.condD rfl (fun h => ?_) (fun h => ?_)) | (with_reducible first | refine seqN (K := Run _ _ _ _) ?_ | refine seqE ?_ | refine blockN ?_ | refine blockE ?_))
      all_goals first
        | (exfalso; omega)
        | (exfalso; simp_all; done)
        | (with_reducible refine seqN ?_
           exact ⟨i + 1, by omega, by omega, Ent.of slA chA⟩)
        | trace_state
    · repeat' (first | (with_reducible refine RL.done ?_) | (with_reducible refine RL.wanted ?_ ?_; exact rfl) | ((with_reducible show RH _ _ _ _ _ _ _ _); refine RH.val (hK := ?_)) | (with_reducible first | refine Run.seq ?_ | refine Run.region ?_ | refine Run.block ?_ | refine Run.skip ?_ | refine Run.exit ?_) | (with_reducible show Run _ _ (.cond _ _ _) _ _ _; refine Run.condD rfl (fun h => ?_) (fun h => ?_)) | (with_reducible first | refine seqN (K := Run _ _ _ _) ?_ | refine seqE ?_ | refine blockE ?_))
      all_goals first
        | (exfalso; omega)
        | (show Met _ _ _ Exit.normal _ _; exact Met.mk () trivial (Ent.of slA chA))
        | trace_state
end Go.Proofs.Ytiifdhdhjioefaa
