/- laws.FnRelations answers true. Proved for this program; no conditions. -/
import Derived.Test.YtiifdhdhjioefaaRlsC
namespace Go.Proofs.Ytiifdhdhjioefaa
open Go Go.Proofs
set_option linter.unusedVariables false
theorem cpoB {n a b : Int} {xs ys : List (List Int)} : (relRows (cpoOk n a xs b ys) (putF (impL xs ys))).length ≤ 4398046511104 ∧ ∀ t ∈ relRows (cpoOk n a xs b ys) (putF (impL xs ys)), t.length ≤ 4611686018427387904 := relRows_bnd (n := n) (a := 2) cpo_rel
theorem fixB {n a p x : Int} {xs : List (List Int)} : (relRows (fixOk n a xs p x) (putF (fixL p.toNat x xs))).length ≤ 4398046511104 ∧ ∀ t ∈ relRows (fixOk n a xs p x) (putF (fixL p.toNat x xs)), t.length ≤ 4611686018427387904 := by
  cases h : fixOk n a xs p x with
  | false => exact ⟨by simp [relRows], fun t ht => by cases ht⟩
  | true =>
    have hc := fix_count h
    obtain ⟨h1, h2, h3, h4⟩ := fixOk_at h
    obtain ⟨hn, _, hx, hs⟩ := rel_facts h1
    have hm := rel_many h1
    have hle := List.length_filter_le (fun t => decide (List.getD t p.toNat 0 = x)) xs
    refine ⟨by show (putF (fixL p.toNat x xs)).length ≤ _; omega, fun t ht => ?_⟩
    have ht2 : t ∈ fixL p.toNat x xs := ((putF_str (k := a.toNat - 1) (ts := fixL p.toNat x xs) fun u hu => by
      obtain ⟨v, hv, rfl⟩ := List.mem_map.1 hu
      have := (hx v (List.mem_filter.1 hv).1).1
      rw [wo_len (by omega)]; omega).2 t).1 ht
    obtain ⟨v, hv, rfl⟩ := List.mem_map.1 ht2
    have := (hx v (List.mem_filter.1 hv).1).1
    rw [wo_len (by omega)]; omega
theorem rofB {n a : Int} {ts : List (List Int)} : (relRows (rofOk n a ts) (putF ts)).length ≤ 4398046511104 ∧ ∀ t ∈ relRows (rofOk n a ts) (putF ts), t.length ≤ 4611686018427387904 := relRows_bnd (n := n) (a := a) rof_rel
theorem prjB {n a : Int} {xs : List (List Int)} {p : List Int} : (relRows (prjOk n a xs p) (putF (xs.map (comp p)))).length ≤ 4398046511104 ∧ ∀ t ∈ relRows (prjOk n a xs p) (putF (xs.map (comp p))), t.length ≤ 4611686018427387904 := by
  cases h : prjOk n a xs p with
  | false => exact ⟨by simp [relRows], fun t ht => by cases ht⟩
  | true =>
    obtain ⟨h1, h2, h3⟩ := prjOk_at h
    have hm := rel_many h1
    have hl : ∀ u ∈ xs.map (comp p), u.length = p.length := fun u hu => by
      obtain ⟨v, _, rfl⟩ := List.mem_map.1 hu
      simp [comp]
    obtain ⟨k1, k2⟩ := putF_str hl
    have hle : (putF (xs.map (comp p))).length ≤ (xs.map (comp p)).length := nodup_le (str_nodup k1) fun u hu => (k2 u).1 hu
    rw [List.length_map] at hle
    exact ⟨by show (putF (xs.map (comp p))).length ≤ _; omega, fun t ht => by have := hl t ((k2 t).1 ht); omega⟩
theorem meetB {n a b : Int} {xs ys : List (List Int)} (h : DrRel a xs) : (meetRows n a xs b ys).length ≤ 4398046511104 ∧ ∀ t ∈ meetRows n a xs b ys, t.length ≤ 4611686018427387904 := by
  obtain ⟨h1, h2⟩ := drB h
  rw [meetRows]
  split
  · exact ⟨Nat.le_trans (List.length_filter_le _ _) h1, fun t ht => h2 t (List.mem_filter.1 ht).1⟩
  · exact ⟨by simp, fun t ht => by cases ht⟩
theorem fullB {n a : Int} : (fullRows n a).length ≤ 4398046511104 ∧ ∀ t ∈ fullRows n a, t.length ≤ 4611686018427387904 := by
  rw [fullRows]
  split
  · rename_i h
    obtain ⟨h1, h2, h3⟩ := h
    have := pw_512 n h1.1 h1.2 a.toNat (by omega)
    refine ⟨by rw [tups_length]; omega, fun t ht => ?_⟩
    obtain ⟨i, _, rfl⟩ := List.mem_map.1 ht
    rw [lowd_length]; omega
  · exact ⟨by simp, fun t ht => by cases ht⟩
theorem meet_at {n a b : Int} {xs ys : List (List Int)} {i : Nat} (h : i < (meetRows n a xs b ys).length) : relOk n a xs = true ∧ relOk n b ys = true ∧ (meetRows n a xs b ys)[i] ∈ xs ∧ (meetRows n a xs b ys)[i] ∈ ys := by
  have hm := List.getElem_mem h
  have ho : meetOk n a xs b ys = true := by
    cases ho : meetOk n a xs b ys with
    | true => rfl
    | false => rw [meetRows, ho] at h; exact absurd h (by simp)
  have e : meetRows n a xs b ys = meetL xs ys := by rw [meetRows, ho]; rfl
  simp only [e] at hm ⊢
  simp only [meetOk, Bool.and_eq_true] at ho
  exact ⟨ho.1.1, ho.1.2, meet_both hm⟩
theorem revF {n a : Int} {xs : List (List Int)} (h : relOk n a xs = true) : Spec Try.prog 13 [vint n, vagg [vint a, vsl 1 (fun t : List Int => [vsl 1 (fun x : Int => [vint x]) t]) xs]] [] (fun r S' => r = vtup [vagg [vint a, vsl 1 (fun t : List Int => [vsl 1 (fun x : Int => [vint x]) t]) (putF (xs.map List.reverse))], vbool true] ∧ S' = []) := by
  have h2 := Spec.frzAg (implRev_c n a xs (drB (relB_bnd h)).1 (drB (relB_bnd h)).2)
  rw [h] at h2
  exact h2
theorem revRs {n a b : Int} {xs ys : List (List Int)} (h : cpoOk n a xs b ys = true) : Spec Try.prog 13 [vint n, vagg [vint (relAr (cpoOk n a xs b ys) 2), vsl 1 (fun t : List Int => [vsl 1 (fun x : Int => [vint x]) t]) (relRows (cpoOk n a xs b ys) (putF (impL xs ys)))]] [] (fun r S' => r = vtup [vagg [vint 2, vsl 1 (fun t : List Int => [vsl 1 (fun x : Int => [vint x]) t]) (putF ((putF (impL xs ys)).map List.reverse))], vbool true] ∧ S' = []) := by
  rw [h]; exact revF (cpo_rel h)
theorem cpoRev {n a b : Int} {xs ys : List (List Int)} (h : cpoOk n a xs b ys = true) : Spec Try.prog 10 [vint n, vagg [vint b, vsl 1 (fun t : List Int => [vsl 1 (fun x : Int => [vint x]) t]) (putF (ys.map List.reverse))], vagg [vint a, vsl 1 (fun t : List Int => [vsl 1 (fun x : Int => [vint x]) t]) (putF (xs.map List.reverse))]] [] (fun r S' => r = vtup [vagg [vint 2, vsl 1 (fun t : List Int => [vsl 1 (fun x : Int => [vint x]) t]) (putF ((putF (impL xs ys)).map List.reverse))], vbool true] ∧ S' = []) := by
  have h1 := rev_rel (cpoOk_at h).1
  have h2 := rev_rel (cpoOk_at h).2.1
  have h3 := Spec.frzAg (implCpo_c n b a (putF (ys.map List.reverse)) (putF (xs.map List.reverse)) (drB (relB_bnd h2)).1 (drB (relB_bnd h2)).2 (drB (relB_bnd h1)).1 (drB (relB_bnd h1)).2)
  rw [cpo_revOk h, cpo_rev h] at h3
  exact h3
theorem cpoZ {n a b : Int} {xs ys : List (List Int)} (h : cpoOk n a xs b ys = true) : (putF ((putF (impL xs ys)).map List.reverse)).length ≤ 4398046511104 ∧ ∀ t ∈ putF ((putF (impL xs ys)).map List.reverse), t.length ≤ 4611686018427387904 := drB (relB_bnd (rev_rel (cpo_rel h)))
theorem w62 {α : Type} {l : List α} (h : l.length ≤ 4398046511104) : l.length ≤ 4611686018427387904 := by omega
theorem fixIn {n a p x : Int} {xs : List (List Int)} (h : fixOk n a xs p x = true) : 0 ≤ p ∧ ∀ t ∈ xs, p.toNat < t.length := by
  obtain ⟨h1, _, h3, _⟩ := fixOk_at h
  obtain ⟨_, _, hx, _⟩ := rel_facts h1
  exact ⟨h3.1, fun t ht => by have := (hx t ht).1; omega⟩
theorem isMade {n a : Int} {ts : List (List Int)} (h : rofOk n a ts = true) : Spec Try.prog 24 [vint n, vagg [vint (relAr (rofOk n a ts) a), vsl 1 (fun t : List Int => [vsl 1 (fun x : Int => [vint x]) t]) (relRows (rofOk n a ts) (putF ts))]] [] (fun r S' => r = vtup [vbool true, vbool true] ∧ S' = []) := by
  rw [h]
  exact isRelR_c n a (putF ts) (rof_rel h) (w62 (drB (relB_bnd (rof_rel h))).1) (drB (relB_bnd (rof_rel h))).2
set_option maxRecDepth 10000 in
set_option maxHeartbeats 8000000 in
theorem law_c (code : List Int) (g0 : code.length ≤ 9223372036854775807 ∧ ∀ x ∈ code, 0 ≤ x ∧ x ≤ 255) : Spec Try.prog 3 [vbytes code] [] (fun r S' => r = vbool true ∧ S' = []) := by
  refine Spec.of_run2 (n := 357) Try.func3 rfl Try.results3 Try.ntmps3 rfl ?_
  repeat' (first | (with_reducible first | refine RL.done ?_ | refine RL.app0 ?_) | (with_reducible refine RL.wanted ?_ ?_; exact rfl) | ((with_reducible show RH _ _ _ ⟨_, .call ⟨.value (.func 8), _, _⟩, _, _, _, _⟩ _ _ _ _); refine RH.cP Try.call8 ?_; refine ⟨_, vBig_c code, ?_⟩; rintro _ _ ⟨rfl, rfl⟩) | ((with_reducible show RH _ _ _ _ _ _ _ _); refine RH.val (hK := ?_)) | (with_reducible first | refine Run.seq ?_ | refine Run.region ?_ | refine Run.skip ?_ | refine Run.ret ?_) | (with_reducible show Run _ _ (.cond _ _ _) _ _ _; refine Run.condD rfl (fun h => ?_) (fun h => ?_)) | (with_reducible first | refine seqN (K := Run _ _ _ _) ?_ | refine seqR ?_))
  all_goals first
    | (refine ⟨eA, _, [], resA, .ch .nil, ?_⟩; exact ⟨rfl, rfl⟩)
    | skip
  have hc : Byts code := ⟨g0.2, by omega⟩
  repeat' (first | (with_reducible first | refine RL.done ?_ | refine RL.app0 ?_) | (with_reducible refine RL.wanted ?_ ?_; exact rfl) | ((with_reducible show Run _ _ (.cond (.tmp 91) _ _) (Post.seq _ _) _ _); refine Run.cut (α := Unit) (fun _ => [(0, vbytes code)]) (fun _ => []) (fun _ => True) ?_ ?_; rotate_left; rintro _ -; (try dsimp only)) | ((with_reducible show RH _ _ _ ⟨some 4, .alloc _, _, _, _, _⟩ _ _ _ _); refine RH.alloc rfl ?_; rintro _ _ ⟨b4, rfl, rfl⟩) | ((with_reducible show RH _ _ _ ⟨some 5, .alloc _, _, _, _, _⟩ _ _ _ _); refine RH.alloc rfl ?_; rintro _ _ ⟨b5, rfl, rfl⟩) | ((with_reducible show RH _ _ _ ⟨some 6, .alloc _, _, _, _, _⟩ _ _ _ _); refine RH.alloc rfl ?_; rintro _ _ ⟨b6, rfl, rfl⟩) | ((with_reducible show RH _ _ _ ⟨some 8, .alloc _, _, _, _, _⟩ _ _ _ _); refine RH.alloc rfl ?_; rintro _ _ ⟨b8, rfl, rfl⟩) | ((with_reducible show RH _ _ _ ⟨some 10, .alloc _, _, _, _, _⟩ _ _ _ _); refine RH.alloc rfl ?_; rintro _ _ ⟨b10, rfl, rfl⟩) | ((with_reducible show RH _ _ _ ⟨some 12, .alloc _, _, _, _, _⟩ _ _ _ _); refine RH.alloc rfl ?_; rintro _ _ ⟨b12, rfl, rfl⟩) | ((with_reducible show RH _ _ _ ⟨some 14, .alloc _, _, _, _, _⟩ _ _ _ _); refine RH.alloc rfl ?_; rintro _ _ ⟨b14, rfl, rfl⟩) | ((with_reducible show RH _ _ _ ⟨some 16, .alloc _, _, _, _, _⟩ _ _ _ _); refine RH.alloc rfl ?_; rintro _ _ ⟨b16, rfl, rfl⟩) | ((with_reducible show RH _ _ _ ⟨some 19, .alloc _, _, _, _, _⟩ _ _ _ _); refine RH.alloc rfl ?_; rintro _ _ ⟨b19, rfl, rfl⟩) | ((with_reducible show RH _ _ _ ⟨some 20, .alloc _, _, _, _, _⟩ _ _ _ _); refine RH.alloc rfl ?_; rintro _ _ ⟨b20, rfl, rfl⟩) | ((with_reducible show RH _ _ _ ⟨some 21, .alloc _, _, _, _, _⟩ _ _ _ _); refine RH.alloc rfl ?_; rintro _ _ ⟨b21, rfl, rfl⟩) | ((with_reducible show RH _ _ _ ⟨some 23, .alloc _, _, _, _, _⟩ _ _ _ _); refine RH.alloc rfl ?_; rintro _ _ ⟨b23, rfl, rfl⟩) | ((with_reducible show RH _ _ _ ⟨_, .call ⟨.value (.func 9), _, _⟩, _, _, _, _⟩ _ _ _ _); refine RH.cP Try.call9 ?_; refine ⟨_, drCompose_c code hc, ?_⟩; rintro _ _ ⟨n, a1, a2, T1, T2, rfl, rfl, hn, hD1, hD2⟩) | ((with_reducible show RH _ _ _ ⟨_, .call ⟨.value (.func 13), _, _⟩, _, _, _, _⟩ _ _ _ _); refine RH.cP Try.call13 ?_; refine ⟨_, revF (cpoOk_at (show cpoOk n a1 T1 a2 T2 = true by assumption)).1, ?_⟩; rintro _ _ ⟨rfl, rfl⟩) | ((with_reducible show RH _ _ _ ⟨_, .call ⟨.value (.func 13), _, _⟩, _, _, _, _⟩ _ _ _ _); refine RH.cP Try.call13 ?_; refine ⟨_, revF (cpoOk_at (show cpoOk n a1 T1 a2 T2 = true by assumption)).2.1, ?_⟩; rintro _ _ ⟨rfl, rfl⟩) | ((with_reducible show RH _ _ _ ⟨_, .call ⟨.value (.func 13), _, _⟩, _, _, _, _⟩ _ _ _ _); refine RH.cP Try.call13 ?_; refine ⟨_, revRs (show cpoOk n a1 T1 a2 T2 = true by assumption), ?_⟩; rintro _ _ ⟨rfl, rfl⟩) | ((with_reducible show RH _ _ _ ⟨_, .call ⟨.value (.func 10), _, _⟩, _, _, _, _⟩ _ _ _ _); refine RH.cP Try.call10 ?_; refine ⟨_, cpoRev (show cpoOk n a1 T1 a2 T2 = true by assumption), ?_⟩; rintro _ _ ⟨rfl, rfl⟩) | ((with_reducible show RH _ _ _ ⟨_, .call ⟨.value (.func 10), _, _⟩, _, _, _, _⟩ _ _ _ _); refine RH.cP Try.call10 ?_; refine ⟨_, Spec.frzAg (implCpo_c n a1 a2 T1 T2 (drB hD1).1 (drB hD1).2 (drB hD2).1 (drB hD2).2), ?_⟩; rintro _ _ ⟨rfl, rfl⟩) | ((with_reducible show RH _ _ _ ⟨_, .call ⟨.value (.func 11), _, _⟩, _, _, _, _⟩ _ _ _ _); refine RH.cP Try.call11 ?_; refine ⟨_, Spec.frzAg (specCpo_c n a1 a2 T1 T2 (drB hD1).1 (drB hD1).2 (drB hD2).1 (drB hD2).2), ?_⟩; rintro _ _ ⟨rfl, rfl⟩) | ((with_reducible show RH _ _ _ ⟨_, .call ⟨.value (.func 12), _, _⟩, _, _, _, _⟩ _ _ _ _); refine RH.cP Try.call12 ?_; refine ⟨_, vRelation_c 2 _ (w62 (cpoZ (show cpoOk n a1 T1 a2 T2 = true by assumption)).1) (cpoZ (show cpoOk n a1 T1 a2 T2 = true by assumption)).2, ?_⟩; rintro _ _ ⟨rfl, rfl⟩) | ((with_reducible show RH _ _ _ ⟨_, .call ⟨.value (.func 12), _, _⟩, _, _, _, _⟩ _ _ _ _); refine RH.cP Try.call12 ?_; refine ⟨_, vRelation_c (relAr (cpoOk n a1 T1 a2 T2) 2) _ (w62 cpoB.1) cpoB.2, ?_⟩; rintro _ _ ⟨rfl, rfl⟩) | ((with_reducible show RH _ _ _ ⟨_, .call ⟨.value (.func 14), _, _⟩, _, _, _, _⟩ _ _ _ _); refine RH.cP Try.call14 ?_; refine ⟨_, drMeet_c code hc, ?_⟩; rintro _ _ ⟨n2, b1, b2, U1, U2, rfl, rfl, hn2, hE1, hE2⟩) | ((with_reducible show RH _ _ _ ⟨_, .call ⟨.value (.func 15), _, _⟩, _, _, _, _⟩ _ _ _ _); refine RH.cP Try.call15 ?_; refine ⟨_, Spec.frzAg (implMeet_c n2 b1 b2 U1 U2 (drB hE1).1 (drB hE1).2 (drB hE2).1 (drB hE2).2), ?_⟩; rintro _ _ ⟨rfl, rfl⟩) | ((with_reducible show RH _ _ _ ⟨_, .call ⟨.value (.func 16), _, _⟩, _, _, _, _⟩ _ _ _ _); refine RH.cP Try.call16 ?_; refine ⟨_, Spec.frzAg (specMeet_c n2 b1 b2 U1 U2 (drB hE1).1 (drB hE1).2 (drB hE2).1 (drB hE2).2), ?_⟩; rintro _ _ ⟨rfl, rfl⟩) | ((with_reducible show RH _ _ _ ⟨_, .call ⟨.value (.func 12), _, _⟩, _, _, _, _⟩ _ _ _ _); refine RH.cP Try.call12 ?_; refine ⟨_, vRelation_c (meetAr n2 b1 U1 b2 U2) _ (w62 (meetB hE1).1) (meetB hE1).2, ?_⟩; rintro _ _ ⟨rfl, rfl⟩) | ((with_reducible show RH _ _ _ _ _ _ _ _); first | refine RH.val (hK := ?_) | refine RH.upd (hK := ?_)) | (with_reducible show RL _ _ _ (_ :: _) _ _ _; first | refine RL.guardYes rfl rfl rfl rfl ?_ | refine RL.guardNoS rfl rfl rfl rfl rfl rfl ?_ | refine RL.splitND rfl rfl rfl (fun h => ?_) (fun h => ?_)) | (with_reducible first | refine Run.seq ?_ | refine Run.region ?_ | refine Run.block ?_ | refine Run.skip ?_ | refine Run.ret ?_) | (with_reducible show Run _ _ (.cond _ _ _) _ _ _; first | refine Run.condT rfl ?_ | refine Run.condF rfl ?_ | refine Run.cond rfl (fun h => ?_) (fun h => ?_)) | (with_reducible first | refine seqN (K := Run _ _ _ _) ?_ | refine seqR ?_))
  all_goals first
    | (exfalso; simp_all; done)
    | (show Met _ _ _ _ _ _; exact Met.mk () trivial (Ent.of slA .nil))
    | skip
  refine Run.loop (α := Nat) (fun i => [(0, vbytes code), (18, vint n2), (19, vptr b19 0), (20, vptr b20 0), (21, vptr b21 0), (25, vint (i : Int))])
    (fun _ => [hcells b21 [vint (meetAr n2 b1 U1 b2 U2), vsl 1 (fun t : List Int => [vsl 1 (fun x : Int => [vint x]) t]) (meetRows n2 b1 U1 b2 U2)], hcells b20 [vint b2, vsl 1 (fun t : List Int => [vsl 1 (fun x : Int => [vint x]) t]) U2], hcells b19 [vint b1, vsl 1 (fun t : List Int => [vsl 1 (fun x : Int => [vint x]) t]) U1]]) (fun i => i ≤ (meetRows n2 b1 U1 b2 U2).length) (fun i => (meetRows n2 b1 U1 b2 U2).length - i) 0 (Nat.zero_le _) (Ent.of slA chA) ?_
  intro i hi
  rcases Nat.lt_or_eq_of_le hi with h9 | h9
  · have hm := meet_at h9
    have hmb := (meetB (n := n2) (b := b2) (ys := U2) hE1).1
    repeat' (first | (with_reducible first | refine RL.done ?_ | refine RD.app0 ?_) | (with_reducible refine RL.wanted ?_ ?_; exact rfl) | ((with_reducible show Run _ _ (.region 23 _ true) _ _ _); refine Run.regionD (fun i => false) rfl ?_; change RD _ _ _ _ _ _ 13 (dm 13 0) _ _) | ((with_reducible show RD _ _ 23 _ _ _ _ _ _ _); first | ((with_reducible show RD _ _ _ _ _ _ _ (dm 13 0) _ _); refine RD.tk 0 (dm 13 8064) (dm 13 1) (hK := ?_)) | ((with_reducible show RD _ _ _ _ _ _ _ (dm 13 1) _ _); refine RD.tk 1 (dm 13 8064) (dm 13 3) (hK := ?_)) | ((with_reducible show RD _ _ _ _ _ _ _ (dm 13 3) _ _); refine RD.tk 2 (dm 13 8168) (dm 13 7) (hK := ?_)) | ((with_reducible show RD _ _ _ _ _ _ _ (dm 13 7) _ _); refine RD.tk 3 (dm 13 8160) (dm 13 15) (hK := ?_)) | ((with_reducible show RD _ _ _ _ _ _ _ (dm 13 15) _ _); refine RD.tk 4 (dm 13 8160) (dm 13 31) (hK := ?_)) | ((with_reducible show RD _ _ _ _ _ _ _ (dm 13 31) _ _); refine RD.tk 5 (dm 13 8128) (dm 13 63) (hK := ?_)) | ((with_reducible show RD _ _ _ _ _ _ _ (dm 13 63) _ _); refine RD.tk 6 (dm 13 8064) (dm 13 127) (hK := ?_)) | ((with_reducible show RD _ _ _ _ _ _ _ (dm 13 127) _ _); refine RD.a1 7 ?_) | ((with_reducible show RD _ _ _ _ _ _ _ (dm 13 255) _ _); refine RD.tk 8 (dm 13 7680) (dm 13 511) (hK := ?_)) | ((with_reducible show RD _ _ _ _ _ _ _ (dm 13 511) _ _); refine RD.tk 9 (dm 13 6144) (dm 13 1023) (hK := ?_)) | ((with_reducible show RD _ _ _ _ _ _ _ (dm 13 1023) _ _); refine RD.tk 10 (dm 13 4096) (dm 13 2047) (hK := ?_)) | ((with_reducible show RD _ _ _ _ _ _ _ (dm 13 2047) _ _); refine RD.tk 11 (dm 13 4096) (dm 13 4095) (hK := ?_)) | ((with_reducible show RD _ _ _ _ _ _ _ (dm 13 4095) _ _); refine RD.tk 12 (dm 13 0) (dm 13 8191) (hK := ?_)) | ((with_reducible show RD _ _ _ _ _ _ 0 _ _ _); refine RD.done (by kernel_rfl) ?_)) | ((with_reducible show RO _ _ 23 _ _ _ _ _ _ _ _); ((with_reducible show RO _ _ _ _ _ _ _ (dm 13 127) 7 _ _); (refine RO.cP (dm 13 255) Try.call17 ?_; refine ⟨_, hasIn_c n2 b1 U1 _ hE1 hm.1 hm.2.2.1, ?_⟩; rintro _ _ ⟨rfl, rfl⟩))) | ((with_reducible show Run _ _ (.region 24 _ true) _ _ _); refine Run.regionD (fun i => false) rfl ?_; change RD _ _ _ _ _ _ 13 (dm 13 0) _ _) | ((with_reducible show RD _ _ 24 _ _ _ _ _ _ _); first | ((with_reducible show RD _ _ _ _ _ _ _ (dm 13 0) _ _); refine RD.tk 0 (dm 13 8064) (dm 13 1) (hK := ?_)) | ((with_reducible show RD _ _ _ _ _ _ _ (dm 13 1) _ _); refine RD.tk 1 (dm 13 8064) (dm 13 3) (hK := ?_)) | ((with_reducible show RD _ _ _ _ _ _ _ (dm 13 3) _ _); refine RD.tk 2 (dm 13 8168) (dm 13 7) (hK := ?_)) | ((with_reducible show RD _ _ _ _ _ _ _ (dm 13 7) _ _); refine RD.tk 3 (dm 13 8160) (dm 13 15) (hK := ?_)) | ((with_reducible show RD _ _ _ _ _ _ _ (dm 13 15) _ _); refine RD.tk 4 (dm 13 8160) (dm 13 31) (hK := ?_)) | ((with_reducible show RD _ _ _ _ _ _ _ (dm 13 31) _ _); refine RD.tk 5 (dm 13 8128) (dm 13 63) (hK := ?_)) | ((with_reducible show RD _ _ _ _ _ _ _ (dm 13 63) _ _); refine RD.tk 6 (dm 13 8064) (dm 13 127) (hK := ?_)) | ((with_reducible show RD _ _ _ _ _ _ _ (dm 13 127) _ _); refine RD.a1 7 ?_) | ((with_reducible show RD _ _ _ _ _ _ _ (dm 13 255) _ _); refine RD.tk 8 (dm 13 7680) (dm 13 511) (hK := ?_)) | ((with_reducible show RD _ _ _ _ _ _ _ (dm 13 511) _ _); refine RD.tk 9 (dm 13 6144) (dm 13 1023) (hK := ?_)) | ((with_reducible show RD _ _ _ _ _ _ _ (dm 13 1023) _ _); refine RD.tk 10 (dm 13 4096) (dm 13 2047) (hK := ?_)) | ((with_reducible show RD _ _ _ _ _ _ _ (dm 13 2047) _ _); refine RD.tk 11 (dm 13 4096) (dm 13 4095) (hK := ?_)) | ((with_reducible show RD _ _ _ _ _ _ _ (dm 13 4095) _ _); refine RD.tk 12 (dm 13 0) (dm 13 8191) (hK := ?_)) | ((with_reducible show RD _ _ _ _ _ _ 0 _ _ _); refine RD.done (by kernel_rfl) ?_)) | ((with_reducible show RO _ _ 24 _ _ _ _ _ _ _ _); ((with_reducible show RO _ _ _ _ _ _ _ (dm 13 127) 7 _ _); (refine RO.cP (dm 13 255) Try.call17 ?_; refine ⟨_, hasIn_c n2 b2 U2 _ hE2 hm.2.1 hm.2.2.2, ?_⟩; rintro _ _ ⟨rfl, rfl⟩))) | ((with_reducible show RH _ _ _ _ _ _ _ _); refine RH.val (hK := ?_)) | (with_reducible show RL _ _ _ (_ :: _) _ _ _; refine RL.guardYes rfl rfl rfl rfl ?_) | (with_reducible first | refine Run.seq ?_ | refine Run.region ?_ | refine Run.block ?_ | refine Run.skip ?_ | refine Run.exit ?_) | (with_reducible show Run _ _ (.cond _ _ _) _ _ _; first | refine Run.condF rfl ?_ | refine Run.condD rfl (fun h => ?_) (fun h => ?_)) | (with_reducible first | refine seqN (K := Run _ _ _ _) ?_ | refine seqE ?_ | refine blockN ?_ | refine blockE ?_))
    all_goals first
      | (exfalso; omega)
      | (exfalso; simp_all; done)
      | (with_reducible refine seqN ?_
         exact ⟨i + 1, by omega, by omega, Ent.of slA chA⟩)
      | trace_state
  · repeat' (first | (with_reducible first | refine RL.done ?_ | refine RL.app0 ?_) | (with_reducible refine RL.wanted ?_ ?_; exact rfl) | ((with_reducible show Run _ _ (.cond (.tmp 241) _ _) (Post.seq _ _) _ _); refine Run.cut (α := Unit) (fun _ => [(0, vbytes code)]) (fun _ => []) (fun _ => True) ?_ ?_; rotate_left; rintro _ -; (try dsimp only)) | ((with_reducible show RH _ _ _ ⟨some 31, .alloc _, _, _, _, _⟩ _ _ _ _); refine RH.alloc rfl ?_; rintro _ _ ⟨b31, rfl, rfl⟩) | ((with_reducible show RH _ _ _ ⟨some 34, .alloc _, _, _, _, _⟩ _ _ _ _); refine RH.alloc rfl ?_; rintro _ _ ⟨b34, rfl, rfl⟩) | ((with_reducible show RH _ _ _ ⟨some 36, .alloc _, _, _, _, _⟩ _ _ _ _); refine RH.alloc rfl ?_; rintro _ _ ⟨b36, rfl, rfl⟩) | ((with_reducible show RH _ _ _ ⟨some 43, .alloc _, _, _, _, _⟩ _ _ _ _); refine RH.alloc rfl ?_; rintro _ _ ⟨b43, rfl, rfl⟩) | ((with_reducible show RH _ _ _ ⟨some 45, .alloc _, _, _, _, _⟩ _ _ _ _); refine RH.alloc rfl ?_; rintro _ _ ⟨b45, rfl, rfl⟩) | ((with_reducible show RH _ _ _ ⟨some 49, .alloc _, _, _, _, _⟩ _ _ _ _); refine RH.alloc rfl ?_; rintro _ _ ⟨b49, rfl, rfl⟩) | ((with_reducible show RH _ _ _ ⟨some 51, .alloc _, _, _, _, _⟩ _ _ _ _); refine RH.alloc rfl ?_; rintro _ _ ⟨b51, rfl, rfl⟩) | ((with_reducible show RH _ _ _ ⟨some 54, .alloc _, _, _, _, _⟩ _ _ _ _); refine RH.alloc rfl ?_; rintro _ _ ⟨b54, rfl, rfl⟩) | ((with_reducible show RH _ _ _ ⟨some 56, .alloc _, _, _, _, _⟩ _ _ _ _); refine RH.alloc rfl ?_; rintro _ _ ⟨b56, rfl, rfl⟩) | ((with_reducible show RH _ _ _ ⟨some 58, .alloc _, _, _, _, _⟩ _ _ _ _); refine RH.alloc rfl ?_; rintro _ _ ⟨b58, rfl, rfl⟩) | ((with_reducible show RH _ _ _ ⟨_, .call ⟨.value (.func 18), _, _⟩, _, _, _, _⟩ _ _ _ _); refine RH.cP Try.call18 ?_; refine ⟨_, drFix_c code hc, ?_⟩; rintro _ _ ⟨n3, c1, p, x, V1, rfl, rfl, hn3, hF1, hx3⟩) | ((with_reducible show RH _ _ _ ⟨_, .call ⟨.value (.func 19), _, _⟩, _, _, _, _⟩ _ _ _ _); refine RH.cP Try.call19 ?_; refine ⟨_, Spec.frzAg (implFix_c n3 c1 p x V1 ⟨by omega, by omega⟩ ⟨by omega, by omega⟩ (drB hF1).1 (drB hF1).2), ?_⟩; rintro _ _ ⟨rfl, rfl⟩) | ((with_reducible show RH _ _ _ ⟨_, .call ⟨.value (.func 20), _, _⟩, _, _, _, _⟩ _ _ _ _); refine RH.cP Try.call20 ?_; refine ⟨_, Spec.frzAg (specFix_c n3 c1 p x V1 ⟨by omega, by omega⟩ ⟨by omega, by omega⟩ (drB hF1).1 (drB hF1).2), ?_⟩; rintro _ _ ⟨rfl, rfl⟩) | ((with_reducible show RH _ _ _ ⟨_, .call ⟨.value (.func 12), _, _⟩, _, _, _, _⟩ _ _ _ _); refine RH.cP Try.call12 ?_; refine ⟨_, vRelation_c (relAr (fixOk n3 c1 V1 p x) (c1 - 1)) _ (w62 fixB.1) fixB.2, ?_⟩; rintro _ _ ⟨rfl, rfl⟩) | ((with_reducible show RH _ _ _ ⟨_, .call ⟨.value (.func 21), _, _⟩, _, _, _, _⟩ _ _ _ _); refine RH.cP Try.call21 ?_; refine ⟨_, drRof_c code hc, ?_⟩; rintro _ _ ⟨n4, d1, W1, rfl, rfl, hn4, hG1⟩) | ((with_reducible show RH _ _ _ ⟨_, .call ⟨.value (.func 22), _, _⟩, _, _, _, _⟩ _ _ _ _); refine RH.cP Try.call22 ?_; refine ⟨_, Spec.frzAg (implRof_c n4 d1 W1 (drB hG1).1 (drB hG1).2), ?_⟩; rintro _ _ ⟨rfl, rfl⟩) | ((with_reducible show RH _ _ _ ⟨_, .call ⟨.value (.func 23), _, _⟩, _, _, _, _⟩ _ _ _ _); refine RH.cP Try.call23 ?_; refine ⟨_, Spec.frzAg (specRof_c n4 d1 W1 (drB hG1).1 (drB hG1).2), ?_⟩; rintro _ _ ⟨rfl, rfl⟩) | ((with_reducible show RH _ _ _ ⟨_, .call ⟨.value (.func 12), _, _⟩, _, _, _, _⟩ _ _ _ _); refine RH.cP Try.call12 ?_; refine ⟨_, vRelation_c (relAr (rofOk n4 d1 W1) d1) _ (w62 rofB.1) rofB.2, ?_⟩; rintro _ _ ⟨rfl, rfl⟩) | ((with_reducible show RH _ _ _ ⟨_, .call ⟨.value (.func 24), _, _⟩, _, _, _, _⟩ _ _ _ _); refine RH.cP Try.call24 ?_; refine ⟨_, isMade (show rofOk n4 d1 W1 = true by assumption), ?_⟩; rintro _ _ ⟨rfl, rfl⟩) | ((with_reducible show RH _ _ _ ⟨_, .call ⟨.value (.func 25), _, _⟩, _, _, _, _⟩ _ _ _ _); refine RH.cP Try.call25 ?_; refine ⟨_, Spec.frzAg (implFullRelation_c n4 d1), ?_⟩; rintro _ _ ⟨rfl, rfl⟩) | ((with_reducible show RH _ _ _ ⟨_, .call ⟨.value (.func 26), _, _⟩, _, _, _, _⟩ _ _ _ _); refine RH.cP Try.call26 ?_; refine ⟨_, Spec.frzAg (specFullRelation_c n4 d1), ?_⟩; rintro _ _ ⟨rfl, rfl⟩) | ((with_reducible show RH _ _ _ ⟨_, .call ⟨.value (.func 12), _, _⟩, _, _, _, _⟩ _ _ _ _); refine RH.cP Try.call12 ?_; refine ⟨_, vRelation_c (fullAr n4 d1) _ (w62 fullB.1) fullB.2, ?_⟩; rintro _ _ ⟨rfl, rfl⟩) | ((with_reducible show RH _ _ _ ⟨_, .call ⟨.value (.func 27), _, _⟩, _, _, _, _⟩ _ _ _ _); refine RH.cP Try.call27 ?_; refine ⟨_, drPrj_c code hc, ?_⟩; rintro _ _ ⟨n5, e1, X1, P1, rfl, rfl, hn5, hH1, hP1⟩) | ((with_reducible show RH _ _ _ ⟨_, .call ⟨.value (.func 28), _, _⟩, _, _, _, _⟩ _ _ _ _); refine RH.cP Try.call28 ?_; refine ⟨_, Spec.frzAg (implPrj_c n5 e1 X1 P1 (drB hH1).1 (drB hH1).2 (by omega)), ?_⟩; rintro _ _ ⟨rfl, rfl⟩) | ((with_reducible show RH _ _ _ ⟨_, .call ⟨.value (.func 29), _, _⟩, _, _, _, _⟩ _ _ _ _); refine RH.cP Try.call29 ?_; refine ⟨_, Spec.frzAg (specPrj_c n5 e1 X1 P1 (drB hH1).1 (drB hH1).2 (by omega)), ?_⟩; rintro _ _ ⟨rfl, rfl⟩) | ((with_reducible show RH _ _ _ ⟨_, .call ⟨.value (.func 12), _, _⟩, _, _, _, _⟩ _ _ _ _); refine RH.cP Try.call12 ?_; refine ⟨_, vRelation_c (relAr (prjOk n5 e1 X1 P1) P1.length) _ (w62 prjB.1) prjB.2, ?_⟩; rintro _ _ ⟨rfl, rfl⟩) | ((with_reducible show RH _ _ _ _ _ _ _ _); first | refine RH.val (hK := ?_) | refine RH.upd (hK := ?_)) | (with_reducible show RL _ _ _ (_ :: _) _ _ _; first | refine RL.guardYes rfl rfl rfl rfl ?_ | refine RL.guardNoS rfl rfl rfl rfl rfl rfl ?_ | refine RL.splitD rfl rfl rfl (fun h => ?_) (fun h => ?_) | refine RL.splitND rfl rfl rfl (fun h => ?_) (fun h => ?_)) | (with_reducible first | refine Run.seq ?_ | refine Run.region ?_ | refine Run.block ?_ | refine Run.skip ?_ | refine Run.exit ?_ | refine Run.ret ?_) | (with_reducible show Run _ _ (.cond _ _ _) _ _ _; first | refine Run.condT rfl ?_ | refine Run.condF rfl ?_ | refine Run.condD rfl (fun h => ?_) (fun h => ?_) | refine Run.cond rfl (fun h => ?_) (fun h => ?_)) | (with_reducible first | refine seqN (K := Run _ _ _ _) ?_ | refine seqE ?_ | refine seqR ?_ | refine blockE ?_))
    all_goals first
      | (exfalso; omega)
      | (exfalso; simp_all; done)
      | (show Met _ _ _ _ _ _; exact Met.mk () trivial (Ent.of slA .nil))
      | (show _ ∧ ∃ rs S2, Res _ _ _ _ rs ∧ _
         refine ⟨eA, _, [], resA, .ch .nil, ?_⟩; exact ⟨rfl, rfl⟩)
      | skip
    have hf : fixOk n3 c1 V1 p x = true := by assumption
    obtain ⟨hp0, hpl⟩ := fixIn hf
    have hV7 := hF1.2.1
    refine Run.loop (α := Nat) (fun i => [(0, vbytes code), (31, vptr b31 0), (32, vint p), (33, vint x), (34, vptr b34 0), (38, vint (((V1.take i).filter fun t => decide (t.getD p.toNat 0 = x)).length : Int)), (39, vint (i : Int))])
      (fun _ => [hcells b34 [vint (relAr (fixOk n3 c1 V1 p x) (c1 - 1)), vsl 1 (fun t : List Int => [vsl 1 (fun x : Int => [vint x]) t]) (relRows (fixOk n3 c1 V1 p x) (putF (fixL p.toNat x V1)))], hcells b31 [vint c1, vsl 1 (fun t : List Int => [vsl 1 (fun x : Int => [vint x]) t]) V1]]) (fun i => i ≤ V1.length) (fun i => V1.length - i) 0 (Nat.zero_le _) (Ent.of slA chA) ?_
    intro j hj
    have hfl := List.length_filter_le (fun t : List Int => decide (t.getD p.toNat 0 = x)) (V1.take j)
    rw [List.length_take] at hfl
    rcases Nat.lt_or_eq_of_le hj with h8 | h8
    · have hpi := hpl _ (List.getElem_mem h8)
      have hg : (V1[j]).getD p.toNat 0 = (V1[j])[p.toNat] := by rw [List.getD_eq_getElem?_getD, List.getElem?_eq_getElem hpi]; rfl
      have htk : V1.take (j + 1) = V1.take j ++ [V1[j]] := by rw [List.take_add_one, List.getElem?_eq_getElem h8]; rfl
      by_cases he : (V1[j]).getD p.toNat 0 = x
      · have hc1 : ((V1.take (j + 1)).filter fun t : List Int => decide (t.getD p.toNat 0 = x)).length = ((V1.take j).filter fun t : List Int => decide (t.getD p.toNat 0 = x)).length + 1 := by
          rw [htk, List.filter_append, List.filter_cons_of_pos (by simpa using he), List.length_append]; rfl
        rw [hg] at he
        repeat' (first | (with_reducible refine RL.done ?_) | (with_reducible refine RL.wanted ?_ ?_; exact rfl) | ((with_reducible show RH _ _ _ _ _ _ _ _); refine RH.val (hK := ?_)) | (with_reducible first | refine Run.seq ?_ | refine Run.region ?_ | refine Run.block ?_ | refine Run.skip ?_ | refine Run.exit ?_ | refine Run.ret ?_) | (with_reducible show Run _ _ (.cond _ _ _) _ _ _; refine Run.condD rfl (fun h => ?_) (fun h => ?_)) | (with_reducible first | refine seqN (K := Run _ _ _ _) ?_ | refine seqE ?_ | refine blockN ?_ | refine blockE ?_))
        all_goals first
          | (exfalso; omega)
          | (with_reducible refine seqN ?_
             exact ⟨j + 1, by omega, by omega, Ent.of slA chA⟩)
          | trace_state
      · have hc1 : ((V1.take (j + 1)).filter fun t : List Int => decide (t.getD p.toNat 0 = x)).length = ((V1.take j).filter fun t : List Int => decide (t.getD p.toNat 0 = x)).length := by
          rw [htk, List.filter_append, List.filter_cons_of_neg (by simpa using he), List.length_append]; rfl
        rw [hg] at he
        repeat' (first | (with_reducible refine RL.done ?_) | (with_reducible refine RL.wanted ?_ ?_; exact rfl) | ((with_reducible show RH _ _ _ _ _ _ _ _); refine RH.val (hK := ?_)) | (with_reducible first | refine Run.seq ?_ | refine Run.region ?_ | refine Run.block ?_ | refine Run.skip ?_ | refine Run.exit ?_ | refine Run.ret ?_) | (with_reducible show Run _ _ (.cond _ _ _) _ _ _; refine Run.condD rfl (fun h => ?_) (fun h => ?_)) | (with_reducible first | refine seqN (K := Run _ _ _ _) ?_ | refine seqE ?_ | refine blockN ?_ | refine blockE ?_))
        all_goals first
          | (exfalso; omega)
          | (with_reducible refine seqN ?_
             exact ⟨j + 1, by omega, by omega, Ent.of slA chA⟩)
          | trace_state
    · subst h8
      rw [List.take_length]
      have hfc := fix_count hf
      rw [hf]
      have hfc2 : (relRows true (putF (fixL p.toNat x V1))).length = (V1.filter fun t : List Int => decide (t.getD p.toNat 0 = x)).length := hfc
      repeat' (first | (with_reducible refine RL.done ?_) | (with_reducible refine RL.wanted ?_ ?_; exact rfl) | ((with_reducible show RH _ _ _ _ _ _ _ _); refine RH.val (hK := ?_)) | (with_reducible first | refine Run.seq ?_ | refine Run.region ?_ | refine Run.block ?_ | refine Run.skip ?_ | refine Run.exit ?_ | refine Run.ret ?_) | (with_reducible show Run _ _ (.cond _ _ _) _ _ _; refine Run.condD rfl (fun h => ?_) (fun h => ?_)) | (with_reducible first | refine seqN (K := Run _ _ _ _) ?_ | refine seqE ?_ | refine blockN ?_ | refine blockE ?_))
      all_goals first
        | (exfalso; omega)
        | (show Met _ _ _ _ _ _; exact Met.mk () trivial (Ent.of slA .nil))
        | trace_state
end Go.Proofs.Ytiifdhdhjioefaa
