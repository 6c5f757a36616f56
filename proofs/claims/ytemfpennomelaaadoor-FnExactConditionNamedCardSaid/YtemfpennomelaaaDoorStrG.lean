/- strings.Split, TrimSuffix, Cut at a separator of one byte; impl.digitsOf. Proved for this program; conditions: texts of at most 2^20 bytes. -/
import Derived.Test.YtemfpennomelaaaDoorStrF
namespace Go.Proofs.YtemfpennomelaaaDoor
open Go Go.Proofs
set_option linter.unusedVariables false
set_option maxRecDepth 10000 in
set_option maxHeartbeats 1000000 in
theorem genSplit_c (l : List UInt8) (c : UInt8) (hl : l.length ≤ 1048576) :
    Spec Tryd.prog 30 [vstr (bs l), vstr (bs [c]), vint 0, vint (-1)] [] (fun r S' => ∃ s : Sv, r = vlit (vsv s) ∧ S' = [hsl tStr (vsv s) ((splitB c l).map bs)]) := by
  have hcl : l.count c ≤ l.length := List.count_le_length
  have hc1 : (bs [c]).size = 1 := rfl
  have hls := bs_size l
  have hne : ¬ bs [c] = ByteArray.mk #[] := fun e => by
    have := congrArg ByteArray.size e
    rw [hc1] at this
    exact absurd this (by decide)
  refine Spec.of_run2 (n := 66) Tryd.func30 rfl Tryd.results30 Tryd.ntmps30 rfl ?_
  repeat' (first | (with_reducible first | refine RL.done ?_ | refine RL.app0 ?_ | refine RL.app1 ?_ | refine RL.app2 ?_ | refine RL.app3 ?_ | refine RL.app4 ?_) | (with_reducible refine RL.wanted ?_ ?_; exact rfl) | ((with_reducible show RH _ _ _ ⟨some 29, .call ⟨.builtin .min, _, _⟩, _, _, _, _⟩ _ _ _ _); refine RH.value (r := vint (((l.count c + 1 : Nat) : Int))) rfl rfl (VOp.minL rfl rfl (by omega)) ?_) | ((with_reducible show RH _ _ _ ⟨some 31, .makeSlice _ _ _, _, _, _, _⟩ _ _ _ _); refine RH.make (α := ByteArray) (l := l.count c + 1) (m := l.count c + 1) rfl (fun s : ByteArray => [vstr s]) ByteArray.empty (fun c => .cons rfl .nil) rfl rfl (Nat.le_refl _) (by omega) (by omega) ?_; rintro _ _ ⟨b31, rfl, rfl⟩) | ((with_reducible show RH _ _ _ ⟨_, .call ⟨.value (.func 45), _, _⟩, _, _, _, _⟩ _ _ _ _); refine RH.cP Tryd.call45 ?_; refine ⟨_, count_c l c, ?_⟩; rintro _ _ ⟨rfl, rfl⟩) | ((with_reducible show RH _ _ _ _ _ _ _ _); first | refine RH.val (hK := ?_) | refine RH.upd (hK := ?_) | (refine RH.lr (h := ?_); intro u)) | (with_reducible first | refine Run.seq ?_ | refine Run.region ?_ | refine Run.block ?_ | refine Run.skip ?_ | refine Run.exit ?_ | refine Run.ret ?_) | (with_reducible show Run _ _ (.cond _ _ _) _ _ _; first | refine Run.condT rfl ?_ | refine Run.condF rfl ?_ | refine Run.condD rfl (fun h => ?_) (fun h => ?_) | refine Run.condND rfl (fun h => ?_) (fun h => ?_) | refine Run.condNB rfl (fun h => ?_) (fun h => ?_) | refine Run.cond rfl (fun h => ?_) (fun h => ?_)) | (with_reducible first | refine seqN (K := Run _ _ _ _) ?_ | refine seqE ?_ | refine seqR ?_ | refine blockN ?_ | refine blockR ?_ | refine blockE ?_) | (with_reducible refine blockX ?_ ?_; exact rfl))
  all_goals first
    | (exfalso; omega)
    | (exfalso; exact hne (by assumption))
    | skip
  refine Run.loop (α := Nat × List UInt8 × List (List UInt8)) (fun z => [(0, vstr (bs z.2.1)), (1, vstr (bs [c])), (2, vint 0), (3, vint ((l.count c : Nat) : Int)), (9, vsb b31 (l.count c + 1) (l.count c + 1)), (10, vint (z.1 : Int))])
    (fun z => [harr b31 1 (fun s : ByteArray => [vstr s]) (z.2.2.map bs ++ List.replicate (l.count c + 1 - z.1) ByteArray.empty) ((l.count c + 1) * 1)])
    (fun z => z.1 ≤ l.count c ∧ z.2.2.length = z.1 ∧ z.2.2 ++ splitB c z.2.1 = splitB c l ∧ z.2.1.count c + z.1 = l.count c ∧ z.2.1.length ≤ l.length) (fun z => l.count c - z.1) (0, l, []) ⟨Nat.zero_le _, rfl, rfl, by simp, Nat.le_refl _⟩ (Ent.of slA (.cons .head (by simp) .nil)) ?_
  rintro ⟨i, q, P⟩ ⟨hi, hP, hsp, hcn, hql⟩
  dsimp only at hi hP hsp hcn hql ⊢
  have hAl : (P.map bs ++ List.replicate (l.count c + 1 - i) ByteArray.empty).length = l.count c + 1 := by simp [hP]; omega
  have hqs := bs_size q
  rcases Nat.lt_or_eq_of_le hi with h9 | h9
  · obtain ⟨m, h1, h2, h3, h4⟩ := indexB_some (c := c) (l := q) (by omega)
    have hixq := index_c q c
    rw [h1] at hixq
    have hput := put_str (P.map bs) i (l.count c + 1) (by simpa using hP) (by omega) (bs (q.take m))
    have hcut : (bs q).extract 0 ((m : Int) + 0).toNat = bs (q.take m) := by rw [bs_cut]; simp
    have hrest : (bs q).extract ((m : Int) + 1).toNat (bs q).size = bs (q.drop (m + 1)) := by
      rw [bs_cut, bs_size]
      congr 1
      rw [show ((m : Int) + 1).toNat = m + 1 by omega, List.take_of_length_le (by simp)]
    repeat' (first | (with_reducible first | refine RL.done ?_ | refine RL.app0 ?_ | refine RL.app1 ?_ | refine RL.app2 ?_ | refine RL.app3 ?_ | refine RL.app4 ?_) | (with_reducible refine RL.wanted ?_ ?_; exact rfl) | ((with_reducible show RH _ _ _ ⟨_, .call ⟨.value (.func 46), _, _⟩, _, _, _, _⟩ _ _ _ _); refine RH.cP Tryd.call46 ?_; refine ⟨_, hixq, ?_⟩; rintro _ _ ⟨rfl, rfl⟩) | ((with_reducible show RH _ _ _ _ _ _ _ _); first | refine RH.val (hK := ?_) | refine RH.upd (hK := ?_) | (refine RH.lr (h := ?_); intro u)) | (with_reducible first | refine Run.seq ?_ | refine Run.region ?_ | refine Run.block ?_ | refine Run.skip ?_ | refine Run.exit ?_ | refine Run.ret ?_) | (with_reducible show Run _ _ (.cond _ _ _) _ _ _; first | refine Run.condT rfl ?_ | refine Run.condF rfl ?_ | refine Run.condD rfl (fun h => ?_) (fun h => ?_) | refine Run.condND rfl (fun h => ?_) (fun h => ?_) | refine Run.condNB rfl (fun h => ?_) (fun h => ?_) | refine Run.cond rfl (fun h => ?_) (fun h => ?_)) | (with_reducible first | refine seqN (K := Run _ _ _ _) ?_ | refine seqE ?_ | refine seqR ?_ | refine blockN ?_ | refine blockR ?_ | refine blockE ?_) | (with_reducible refine blockX ?_ ?_; exact rfl))
    all_goals first
      | (exfalso; omega)
      | (with_reducible refine seqN ?_
         exact ⟨(i + 1, q.drop (m + 1), P ++ [q.take m]), ⟨by dsimp only; omega, by simp [hP], by dsimp only; rw [List.append_assoc, ← hsp, h3]; rfl, by dsimp only; omega, by dsimp only; rw [List.length_drop]; omega⟩, by dsimp only; omega,
           Ent.of (by dsimp only; rw [← hrest]; exact slA) (.cons .head (by dsimp only; rw [hcut, hput, List.map_append]; rfl) .nil)⟩)
  · have hq0 : q.count c = 0 := by omega
    rw [splitB_none hq0] at hsp
    have hput := put_str (P.map bs) i (l.count c + 1) (by simpa using hP) (by omega) (bs q)
    have hend : (P.map bs ++ List.replicate (l.count c + 1 - i) ByteArray.empty).set i (bs q) = (splitB c l).map bs := by
      rw [hput, ← hsp, show l.count c + 1 - (i + 1) = 0 by omega]
      simp
    have hAl2 : ((P.map bs ++ List.replicate (l.count c + 1 - i) ByteArray.empty).set i (bs q)).length = l.count c + 1 := by rw [List.length_set, hAl]
    refine Run.sent (T := [hsl tStr (.slice (some ⟨b31, 0, none⟩) (l.count c + 1) (l.count c + 1)) (P.map bs ++ List.replicate (l.count c + 1 - i) ByteArray.empty)]) (SEnt.pack (rv := fun s : ByteArray => Value.string s) (fun _ => rfl) hAl.symm) ?_
    repeat' (first | (with_reducible first | refine RL.done ?_ | refine RL.app0 ?_ | refine RL.app1 ?_ | refine RL.app2 ?_ | refine RL.app3 ?_ | refine RL.app4 ?_) | (with_reducible refine RL.wanted ?_ ?_; exact rfl) | ((with_reducible show RH _ _ _ ⟨_, .store _ (.tmp 61) _, _, _, _, _⟩ _ _ _ _); refine RH.put rfl (UOp.storeH (rv := fun s : ByteArray => Value.string s) (z := bs q) rfl rfl (by exact Plc.head) (by omega)) ?_) | ((with_reducible show RH _ _ _ _ _ _ _ _); first | refine RH.val (hK := ?_) | refine RH.upd (hK := ?_) | (refine RH.lr (h := ?_); intro u)) | (with_reducible first | refine Run.seq ?_ | refine Run.region ?_ | refine Run.block ?_ | refine Run.skip ?_ | refine Run.exit ?_ | refine Run.ret ?_) | (with_reducible show Run _ _ (.cond _ _ _) _ _ _; first | refine Run.condT rfl ?_ | refine Run.condF rfl ?_ | refine Run.condD rfl (fun h => ?_) (fun h => ?_) | refine Run.condND rfl (fun h => ?_) (fun h => ?_) | refine Run.condNB rfl (fun h => ?_) (fun h => ?_) | refine Run.cond rfl (fun h => ?_) (fun h => ?_)) | (with_reducible first | refine seqN (K := Run _ _ _ _) ?_ | refine seqE ?_ | refine seqR ?_ | refine blockN ?_ | refine blockR ?_ | refine blockE ?_) | (with_reducible refine blockX ?_ ?_; exact rfl))
    all_goals first
      | (exfalso; omega)
      | skip
    refine ⟨eA, _, [hsl tStr (vsv (some ⟨b31, 0, none⟩, l.count c + 1, l.count c + 1)) ((splitB c l).map bs)], resA, ?_, ?_⟩
    · exact SEnt.ch (.cons .head (by rw [hend]) .nil)
    · exact ⟨(some ⟨b31, 0, none⟩, l.count c + 1, l.count c + 1), by subst h9; rfl, rfl⟩
set_option maxRecDepth 10000 in
theorem split_c (l : List UInt8) (c : UInt8) (hl : l.length ≤ 1048576) : Spec Tryd.prog 15 [vstr (bs l), vstr (bs [c])] [] (fun r S' => ∃ s : Sv, r = vlit (vsv s) ∧ S' = [hsl tStr (vsv s) ((splitB c l).map bs)]) := by
  refine Spec.of_run2 (n := 8) Tryd.func15 rfl Tryd.results15 Tryd.ntmps15 rfl ?_
  repeat' (first | (with_reducible first | refine RL.done ?_ | refine RL.app0 ?_ | refine RL.app1 ?_ | refine RL.app2 ?_ | refine RL.app3 ?_ | refine RL.app4 ?_) | (with_reducible refine RL.wanted ?_ ?_; exact rfl) | ((with_reducible show RH _ _ _ ⟨_, .call ⟨.value (.func 30), _, _⟩, _, _, _, _⟩ _ _ _ _); refine RH.cW Tryd.call30 ?_; refine ⟨_, _, _, (by repeat (first | exact Pick.nil | (apply Pick.cons; (with_reducible repeat (first | exact Rem.head | apply Rem.tail))))), genSplit_c l c hl, ?_⟩; rintro _ _ ⟨s7, rfl, rfl⟩; refine RL.nm ?_) | ((with_reducible show RH _ _ _ _ _ _ _ _); first | refine RH.val (hK := ?_) | refine RH.upd (hK := ?_) | (refine RH.lr (h := ?_); intro u)) | (with_reducible first | refine Run.seq ?_ | refine Run.region ?_ | refine Run.block ?_ | refine Run.skip ?_ | refine Run.exit ?_ | refine Run.ret ?_) | (with_reducible show Run _ _ (.cond _ _ _) _ _ _; first | refine Run.condT rfl ?_ | refine Run.condF rfl ?_ | refine Run.condD rfl (fun h => ?_) (fun h => ?_) | refine Run.condND rfl (fun h => ?_) (fun h => ?_) | refine Run.condNB rfl (fun h => ?_) (fun h => ?_) | refine Run.cond rfl (fun h => ?_) (fun h => ?_)) | (with_reducible first | refine seqN (K := Run _ _ _ _) ?_ | refine seqE ?_ | refine seqR ?_ | refine blockN ?_ | refine blockR ?_ | refine blockE ?_) | (with_reducible refine blockX ?_ ?_; exact rfl))
  refine ⟨eA, _, [hsl tStr (vsv s7) ((splitB c l).map bs)], resA, ?_, ?_⟩
  · exact SEnt.ch chA
  · exact ⟨s7, rfl, rfl⟩
/-! ### a suffix of one byte -/
theorem suf_cut (l : List UInt8) (c : UInt8) : (bs (l ++ [c])).extract (((bs (l ++ [c])).size : Int) - ((bs [c]).size : Int)).toNat (bs (l ++ [c])).size = bs [c] := by
  rw [bs_cut, bs_size, bs_size]
  congr 1
  rw [show (((l ++ [c]).length : Int) - (([c] : List UInt8).length : Int)).toNat = l.length by simp, List.drop_left]
  simp
set_option maxRecDepth 10000 in
theorem hasSuffix_c (l : List UInt8) (c : UInt8) (hl : l.length ≤ 1048576) : Spec Tryd.prog 47 [vstr (bs (l ++ [c])), vstr (bs [c])] [] (fun r S' => r = vbool true ∧ S' = []) := by
  have h1 : (bs (l ++ [c])).size = l.length + 1 := by rw [bs_size]; simp
  have h2 : (bs [c]).size = 1 := rfl
  have h3 := suf_cut l c
  refine Spec.of_run2 (n := 21) Tryd.func47 rfl Tryd.results47 Tryd.ntmps47 rfl ?_
  repeat' (first | (with_reducible first | refine RL.done ?_ | refine RL.app0 ?_ | refine RL.app1 ?_ | refine RL.app2 ?_ | refine RL.app3 ?_ | refine RL.app4 ?_) | (with_reducible refine RL.wanted ?_ ?_; exact rfl) | ((with_reducible show RH _ _ _ _ _ _ _ _); first | refine RH.val (hK := ?_) | refine RH.upd (hK := ?_) | (refine RH.lr (h := ?_); intro u)) | (with_reducible show RL _ _ _ (_ :: _) _ _ _; first | refine RL.guardYes rfl rfl rfl rfl ?_ | refine RL.guardNoS rfl rfl rfl rfl rfl rfl ?_ | refine RL.guardNo0 rfl rfl rfl rfl rfl rfl ?_ | refine RL.splitD rfl rfl rfl (fun h => ?_) (fun h => ?_) | refine RL.splitND rfl rfl rfl (fun h => ?_) (fun h => ?_) | refine RL.splitNB rfl rfl rfl (fun h => ?_) (fun h => ?_) | refine RL.split rfl rfl rfl (fun h => ?_) (fun h => ?_)) | (with_reducible first | refine Run.seq ?_ | refine Run.region ?_ | refine Run.block ?_ | refine Run.skip ?_ | refine Run.exit ?_ | refine Run.ret ?_) | (with_reducible show Run _ _ (.cond _ _ _) _ _ _; first | refine Run.condT rfl ?_ | refine Run.condF rfl ?_ | refine Run.condD rfl (fun h => ?_) (fun h => ?_) | refine Run.condND rfl (fun h => ?_) (fun h => ?_) | refine Run.condNB rfl (fun h => ?_) (fun h => ?_) | refine Run.cond rfl (fun h => ?_) (fun h => ?_)) | (with_reducible first | refine seqN (K := Run _ _ _ _) ?_ | refine seqE ?_ | refine seqR ?_ | refine blockN ?_ | refine blockR ?_ | refine blockE ?_) | (with_reducible refine blockX ?_ ?_; exact rfl))
  all_goals first
    | (exfalso; omega)
    | (refine ⟨eA, _, [], resA, .ch .nil, ?_⟩
       exact ⟨congrArg vbool (decide_eq_true h3), rfl⟩)
set_option maxRecDepth 10000 in
theorem trimL_c (l : List UInt8) (c : UInt8) (hl : l.length ≤ 1048576) : Spec Tryd.prog 31 [vstr (bs (l ++ [c])), vstr (bs [c])] [] (fun r S' => r = vstr (bs l) ∧ S' = []) := by
  have h1 : (bs (l ++ [c])).size = l.length + 1 := by rw [bs_size]; simp
  have h2 : (bs [c]).size = 1 := rfl
  refine Spec.of_run2 (n := 16) Tryd.func31 rfl Tryd.results31 Tryd.ntmps31 rfl ?_
  repeat' (first | (with_reducible first | refine RL.done ?_ | refine RL.app0 ?_ | refine RL.app1 ?_ | refine RL.app2 ?_ | refine RL.app3 ?_ | refine RL.app4 ?_) | (with_reducible refine RL.wanted ?_ ?_; exact rfl) | ((with_reducible show RH _ _ _ ⟨_, .call ⟨.value (.func 47), _, _⟩, _, _, _, _⟩ _ _ _ _); refine RH.cP Tryd.call47 ?_; refine ⟨_, hasSuffix_c l c hl, ?_⟩; rintro _ _ ⟨rfl, rfl⟩) | ((with_reducible show RH _ _ _ _ _ _ _ _); first | refine RH.val (hK := ?_) | refine RH.upd (hK := ?_) | (refine RH.lr (h := ?_); intro u)) | (with_reducible first | refine Run.seq ?_ | refine Run.region ?_ | refine Run.block ?_ | refine Run.skip ?_ | refine Run.exit ?_ | refine Run.ret ?_) | (with_reducible show Run _ _ (.cond _ _ _) _ _ _; first | refine Run.condT rfl ?_ | refine Run.condF rfl ?_ | refine Run.condD rfl (fun h => ?_) (fun h => ?_) | refine Run.condND rfl (fun h => ?_) (fun h => ?_) | refine Run.condNB rfl (fun h => ?_) (fun h => ?_) | refine Run.cond rfl (fun h => ?_) (fun h => ?_)) | (with_reducible first | refine seqN (K := Run _ _ _ _) ?_ | refine seqE ?_ | refine seqR ?_ | refine blockN ?_ | refine blockR ?_ | refine blockE ?_) | (with_reducible refine blockX ?_ ?_; exact rfl))
  all_goals first
    | (exfalso; omega)
    | (refine ⟨eA, _, [], resA, .ch .nil, ?_⟩
       refine ⟨congrArg vstr ?_, rfl⟩
       rw [bs_cut, h1, h2, show (((l.length + 1 : Nat) : Int) - ((1 : Nat) : Int)).toNat - 0 = l.length by omega]
       simp)
set_option maxRecDepth 10000 in
theorem trim_c (l : List UInt8) (c : UInt8) (hl : l.length ≤ 1048576) : Spec Tryd.prog 16 [vstr (bs (l ++ [c])), vstr (bs [c])] [] (fun r S' => r = vstr (bs l) ∧ S' = []) := by
  refine Spec.of_run2 (n := 8) Tryd.func16 rfl Tryd.results16 Tryd.ntmps16 rfl ?_
  repeat' (first | (with_reducible first | refine RL.done ?_ | refine RL.app0 ?_ | refine RL.app1 ?_ | refine RL.app2 ?_ | refine RL.app3 ?_ | refine RL.app4 ?_) | (with_reducible refine RL.wanted ?_ ?_; exact rfl) | ((with_reducible show RH _ _ _ ⟨_, .call ⟨.value (.func 31), _, _⟩, _, _, _, _⟩ _ _ _ _); refine RH.cP Tryd.call31 ?_; refine ⟨_, trimL_c l c hl, ?_⟩; rintro _ _ ⟨rfl, rfl⟩) | ((with_reducible show RH _ _ _ _ _ _ _ _); first | refine RH.val (hK := ?_) | refine RH.upd (hK := ?_) | (refine RH.lr (h := ?_); intro u)) | (with_reducible first | refine Run.seq ?_ | refine Run.region ?_ | refine Run.block ?_ | refine Run.skip ?_ | refine Run.exit ?_ | refine Run.ret ?_) | (with_reducible show Run _ _ (.cond _ _ _) _ _ _; first | refine Run.condT rfl ?_ | refine Run.condF rfl ?_ | refine Run.condD rfl (fun h => ?_) (fun h => ?_) | refine Run.condND rfl (fun h => ?_) (fun h => ?_) | refine Run.condNB rfl (fun h => ?_) (fun h => ?_) | refine Run.cond rfl (fun h => ?_) (fun h => ?_)) | (with_reducible first | refine seqN (K := Run _ _ _ _) ?_ | refine seqE ?_ | refine seqR ?_ | refine blockN ?_ | refine blockR ?_ | refine blockE ?_) | (with_reducible refine blockX ?_ ?_; exact rfl))
  refine ⟨eA, _, [], resA, .ch .nil, ?_⟩
  exact ⟨rfl, rfl⟩
/-! ### a text cut in two -/
set_option maxRecDepth 10000 in
theorem cutL_c (l : List UInt8) (c : UInt8) (m : Nat) (hm : Lib.indexByte l c = m) (hml : m < l.length) (hl : l.length ≤ 1048576) : Spec Tryd.prog 32 [vstr (bs l), vstr (bs [c])] [] (fun r S' => r = vtup [vstr (bs (l.take m)), vstr (bs (l.drop (m + 1))), vbool true] ∧ S' = []) := by
  have hix := sIndex_c l c
  rw [hm] at hix
  have h1 := bs_size l
  have h2 : (bs [c]).size = 1 := rfl
  have h3 : (bs l).extract 0 ((m : Int)).toNat = bs (l.take m) := by rw [bs_cut]; simp
  have h4 : (bs l).extract ((m : Int) + ((bs [c]).size : Int)).toNat (bs l).size = bs (l.drop (m + 1)) := by
    rw [bs_cut, bs_size, h2]
    congr 1
    rw [show ((m : Int) + ((1 : Nat) : Int)).toNat = m + 1 by omega, List.take_of_length_le (by simp)]
  refine Spec.of_run2 (n := 23) Tryd.func32 rfl Tryd.results32 Tryd.ntmps32 rfl ?_
  repeat' (first | (with_reducible first | refine RL.done ?_ | refine RL.app0 ?_ | refine RL.app1 ?_ | refine RL.app2 ?_ | refine RL.app3 ?_ | refine RL.app4 ?_ | refine RD.app0 ?_ | refine RD.app1 ?_ | refine RD.app2 ?_) | (with_reducible refine RL.wanted ?_ ?_; exact rfl) | ((with_reducible show Run _ _ (.region 3 _ true) _ _ _); refine Run.regionD (fun i => false) rfl ?_; change RD _ _ _ _ _ _ 12 (dm 12 0) _ _) | ((with_reducible show RD _ _ 3 _ _ _ _ _ _ _); first | ((with_reducible show RD _ _ _ _ _ _ _ (dm 12 0) _ _); refine RD.tk 0 (dm 12 3588) (dm 12 1) (hK := ?_)) | ((with_reducible show RD _ _ _ _ _ _ _ (dm 12 1) _ _); refine RD.tk 1 (dm 12 3588) (dm 12 3) (hK := ?_)) | ((with_reducible show RD _ _ _ _ _ _ _ (dm 12 3) _ _); refine RD.tk 2 (dm 12 3584) (dm 12 7) (hK := ?_)) | ((with_reducible show RD _ _ _ _ _ _ _ (dm 12 7) _ _); refine RD.tk 3 (dm 12 3328) (dm 12 15) (hK := ?_)) | ((with_reducible show RD _ _ _ _ _ _ _ (dm 12 15) _ _); refine RD.tk 4 (dm 12 3456) (dm 12 31) (hK := ?_)) | ((with_reducible show RD _ _ _ _ _ _ _ (dm 12 31) _ _); refine RD.tk 5 (dm 12 3520) (dm 12 63) (hK := ?_)) | ((with_reducible show RD _ _ _ _ _ _ _ (dm 12 63) _ _); refine RD.tk 6 (dm 12 3456) (dm 12 127) (hK := ?_)) | ((with_reducible show RD _ _ _ _ _ _ _ (dm 12 127) _ _); refine RD.tk 7 (dm 12 3328) (dm 12 255) (hK := ?_)) | ((with_reducible show RD _ _ _ _ _ _ _ (dm 12 255) _ _); refine RD.tk 8 (dm 12 3072) (dm 12 511) (hK := ?_)) | ((with_reducible show RD _ _ _ _ _ _ _ (dm 12 511) _ _); refine RD.tk 9 (dm 12 3072) (dm 12 1023) (hK := ?_)) | ((with_reducible show RD _ _ _ _ _ _ _ (dm 12 1023) _ _); refine RD.tk 10 (dm 12 2048) (dm 12 2047) (hK := ?_)) | ((with_reducible show RD _ _ _ _ _ _ _ (dm 12 2047) _ _); refine RD.tk 11 (dm 12 0) (dm 12 4095) (hK := ?_)) | ((with_reducible show RD _ _ _ _ _ _ 0 _ _ _); refine RD.done (by kernel_rfl) ?_)) | ((with_reducible show RH _ _ _ ⟨_, .call ⟨.value (.func 48), _, _⟩, _, _, _, _⟩ _ _ _ _); refine RH.cP Tryd.call48 ?_; refine ⟨_, hix, ?_⟩; rintro _ _ ⟨rfl, rfl⟩) | ((with_reducible show RH _ _ _ _ _ _ _ _); first | refine RH.val (hK := ?_) | refine RH.upd (hK := ?_) | (refine RH.lr (h := ?_); intro u)) | (with_reducible first | refine Run.seq ?_ | refine Run.region ?_ | refine Run.block ?_ | refine Run.skip ?_ | refine Run.exit ?_ | refine Run.ret ?_) | (with_reducible show Run _ _ (.cond _ _ _) _ _ _; first | refine Run.condT rfl ?_ | refine Run.condF rfl ?_ | refine Run.condD rfl (fun h => ?_) (fun h => ?_) | refine Run.condND rfl (fun h => ?_) (fun h => ?_) | refine Run.condNB rfl (fun h => ?_) (fun h => ?_) | refine Run.cond rfl (fun h => ?_) (fun h => ?_)) | (with_reducible first | refine seqN (K := Run _ _ _ _) ?_ | refine seqE ?_ | refine seqR ?_ | refine blockN ?_ | refine blockR ?_ | refine blockE ?_) | (with_reducible refine blockX ?_ ?_; exact rfl))
  all_goals first
    | (exfalso; omega)
    | (refine ⟨eA, _, [], resA, .ch .nil, ?_⟩
       exact ⟨by rw [← h3, ← h4]; rfl, rfl⟩)
set_option maxRecDepth 10000 in
theorem cut_c (l : List UInt8) (c : UInt8) (m : Nat) (hm : Lib.indexByte l c = m) (hml : m < l.length) (hl : l.length ≤ 1048576) : Spec Tryd.prog 17 [vstr (bs l), vstr (bs [c])] [] (fun r S' => r = vtup [vstr (bs (l.take m)), vstr (bs (l.drop (m + 1))), vbool true] ∧ S' = []) := by
  refine Spec.of_run2 (n := 13) Tryd.func17 rfl Tryd.results17 Tryd.ntmps17 rfl ?_
  repeat' (first | (with_reducible first | refine RL.done ?_ | refine RL.app0 ?_ | refine RL.app1 ?_ | refine RL.app2 ?_ | refine RL.app3 ?_ | refine RL.app4 ?_) | (with_reducible refine RL.wanted ?_ ?_; exact rfl) | ((with_reducible show RH _ _ _ ⟨_, .call ⟨.value (.func 32), _, _⟩, _, _, _, _⟩ _ _ _ _); refine RH.cP Tryd.call32 ?_; refine ⟨_, cutL_c l c m hm hml hl, ?_⟩; rintro _ _ ⟨rfl, rfl⟩) | ((with_reducible show RH _ _ _ _ _ _ _ _); first | refine RH.val (hK := ?_) | refine RH.upd (hK := ?_) | (refine RH.lr (h := ?_); intro u)) | (with_reducible first | refine Run.seq ?_ | refine Run.region ?_ | refine Run.block ?_ | refine Run.skip ?_ | refine Run.exit ?_ | refine Run.ret ?_) | (with_reducible show Run _ _ (.cond _ _ _) _ _ _; first | refine Run.condT rfl ?_ | refine Run.condF rfl ?_ | refine Run.condD rfl (fun h => ?_) (fun h => ?_) | refine Run.condND rfl (fun h => ?_) (fun h => ?_) | refine Run.condNB rfl (fun h => ?_) (fun h => ?_) | refine Run.cond rfl (fun h => ?_) (fun h => ?_)) | (with_reducible first | refine seqN (K := Run _ _ _ _) ?_ | refine seqE ?_ | refine seqR ?_ | refine blockN ?_ | refine blockR ?_ | refine blockE ?_) | (with_reducible refine blockX ?_ ?_; exact rfl))
  refine ⟨eA, _, [], resA, .ch .nil, ?_⟩
  exact ⟨rfl, rfl⟩
/-! ### digits as numbers -/
def digN (l : List UInt8) : List Int := l.map fun b => ((b.toNat : Int) - 48) % 256
theorem digN_step {l : List UInt8} {j : Nat} (h : j < l.length) : digN (l.take (j + 1)) = digN (l.take j) ++ [((l[j].toNat : Int) - 48) % 256] := by
  rw [digN, digN, List.take_add_one, List.getElem?_eq_getElem h, List.map_append]; rfl
set_option maxRecDepth 10000 in
theorem digitsOf_c (l : List UInt8) (hl : l.length ≤ 1048576) : Spec Tryd.prog 18 [vstr (bs l)] [] (fun r S' => ∃ s : Sv, r = vlit (vsv s) ∧ S' = [hsl tInt (vsv s) (digN l)]) := by
  have h1 := bs_size l
  refine Spec.of_run2 (n := 21) Tryd.func18 rfl Tryd.results18 Tryd.ntmps18 rfl ?_
  repeat' (first | (with_reducible first | refine RL.done ?_ | refine RL.app0 ?_ | refine RL.app1 ?_ | refine RL.app2 ?_ | refine RL.app3 ?_ | refine RL.app4 ?_) | (with_reducible refine RL.wanted ?_ ?_; exact rfl) | ((with_reducible show RH _ _ _ ⟨some 5, .buildSlice _ _ _, _, _, _, _⟩ _ _ _ _); refine RH.eff rfl rfl (EOpS.e (EOpS.slit (fun x : Int => [vint x]) _ (fun _ _ => rfl) (by repeat (first | exact Elts.nil | (apply Elts.cons; exact rfl; exact CellsOf.one))) rfl rfl)) ?_; rintro _ _ ⟨b5, rfl, rfl⟩) | ((with_reducible show RH _ _ _ ⟨some 18, .buildSlice _ _ _, _, _, _, _⟩ _ _ _ _); refine RH.eff rfl rfl (EOpS.e (EOpS.slit (fun x : Int => [vint x]) _ (fun _ _ => rfl) (by repeat (first | exact Elts.nil | (apply Elts.cons; exact rfl; exact CellsOf.one))) rfl rfl)) ?_; rintro _ _ ⟨b18, rfl, rfl⟩) | ((with_reducible show RH _ _ _ _ _ _ _ _); first | refine RH.val (hK := ?_) | refine RH.upd (hK := ?_) | (refine RH.lr (h := ?_); intro u)) | (with_reducible first | refine Run.seq ?_ | refine Run.region ?_ | refine Run.block ?_ | refine Run.skip ?_ | refine Run.exit ?_ | refine Run.ret ?_) | (with_reducible show Run _ _ (.cond _ _ _) _ _ _; first | refine Run.condT rfl ?_ | refine Run.condF rfl ?_ | refine Run.condD rfl (fun h => ?_) (fun h => ?_) | refine Run.condND rfl (fun h => ?_) (fun h => ?_) | refine Run.condNB rfl (fun h => ?_) (fun h => ?_) | refine Run.cond rfl (fun h => ?_) (fun h => ?_)) | (with_reducible first | refine seqN (K := Run _ _ _ _) ?_ | refine seqE ?_ | refine seqR ?_ | refine blockN ?_ | refine blockR ?_ | refine blockE ?_) | (with_reducible refine blockX ?_ ?_; exact rfl))
  refine Run.sent (T := [hsl tInt (vsv (some ⟨b5, 0, none⟩, 0, 0)) []]) (SEnt.packNil tInt rfl) ?_
  refine Run.loop (α := Nat × Sv) (fun z => [(0, vstr (bs l)), (3, vlit (vsv z.2)), (4, vint (z.1 : Int))]) (fun z => [hsl tInt (vsv z.2) (digN (l.take z.1))]) (fun z => z.1 ≤ l.length) (fun z => l.length - z.1) (0, (some ⟨b5, 0, none⟩, 0, 0)) (Nat.zero_le _) (Ent.of slA .refl) ?_
  rintro ⟨j, s⟩ hj
  dsimp only at hj ⊢
  have hdl : (digN (l.take j)).length ≤ 1048576 := by rw [digN, List.length_map, List.length_take]; omega
  rcases Nat.lt_or_eq_of_le hj with h9 | h9
  · have hst : digN (l.take (j + 1)) = digN (l.take j) ++ [((((bs l)[j]'(by omega)).toNat : Int) - 48) % 256] := digN_step h9
    repeat' (first | (with_reducible first | refine RL.done ?_ | refine RL.app0 ?_ | refine RL.app1 ?_ | refine RL.app2 ?_ | refine RL.app3 ?_ | refine RL.app4 ?_) | (with_reducible refine RL.wanted ?_ ?_; exact rfl) | ((with_reducible show RH _ _ _ ⟨some 5, .buildSlice _ _ _, _, _, _, _⟩ _ _ _ _); refine RH.eff rfl rfl (EOpS.e (EOpS.slit (fun x : Int => [vint x]) _ (fun _ _ => rfl) (by repeat (first | exact Elts.nil | (apply Elts.cons; exact rfl; exact CellsOf.one))) rfl rfl)) ?_; rintro _ _ ⟨b5, rfl, rfl⟩) | ((with_reducible show RH _ _ _ ⟨some 18, .buildSlice _ _ _, _, _, _, _⟩ _ _ _ _); refine RH.eff rfl rfl (EOpS.e (EOpS.slit (fun x : Int => [vint x]) _ (fun _ _ => rfl) (by repeat (first | exact Elts.nil | (apply Elts.cons; exact rfl; exact CellsOf.one))) rfl rfl)) ?_; rintro _ _ ⟨b18, rfl, rfl⟩) | ((with_reducible show RH _ _ _ ⟨_, .call ⟨.builtin .append, _, _⟩, _, _, _, _⟩ _ _ _ _); (first | refine RH.appI rfl rfl rfl (by repeat (first | exact Pick.nil | (apply Pick.cons; (with_reducible repeat (first | exact Rem.head | apply Rem.tail))))) (by first | omega | (simp; omega)) (by first | omega | (simp; omega)) ?_ | refine RH.appR rfl rfl rfl (by repeat (first | exact Pick.nil | (apply Pick.cons; (with_reducible repeat (first | exact Rem.head | apply Rem.tail))))) (by first | omega | (simp; omega)) (by first | omega | (simp; omega)) ?_ | refine RH.appRI rfl rfl rfl (by repeat (first | exact Pick.nil | (apply Pick.cons; (with_reducible repeat (first | exact Rem.head | apply Rem.tail))))) (by first | exact rfl | (simp; done)) (by first | omega | (simp; omega)) (by first | omega | (simp; omega)) ?_ | refine RH.appF rfl rfl rfl (by repeat (first | exact Pick.nil | (apply Pick.cons; (with_reducible repeat (first | exact Rem.head | apply Rem.tail))))) (by first | omega | (simp; omega)) (by first | omega | (simp; omega)) ?_ | refine RH.appSv rfl rfl rfl (by repeat (first | exact Pick.nil | (apply Pick.cons; (with_reducible repeat (first | exact Rem.head | apply Rem.tail))))) (by first | omega | (simp; omega)) (by first | omega | (simp; omega)) ?_ | refine RH.appPI rfl rfl rfl (by repeat (first | exact Pick.nil | (apply Pick.cons; (with_reducible repeat (first | exact Rem.head | apply Rem.tail))))) (by first | omega | (simp; omega)) (by first | omega | (simp; omega)) ?_); rintro _ _ ⟨s, rfl, rfl⟩) | ((with_reducible show RH _ _ _ _ _ _ _ _); first | refine RH.val (hK := ?_) | refine RH.upd (hK := ?_) | (refine RH.lr (h := ?_); intro u)) | (with_reducible first | refine Run.seq ?_ | refine Run.region ?_ | refine Run.block ?_ | refine Run.skip ?_ | refine Run.exit ?_ | refine Run.ret ?_) | (with_reducible show Run _ _ (.cond _ _ _) _ _ _; first | refine Run.condT rfl ?_ | refine Run.condF rfl ?_ | refine Run.condD rfl (fun h => ?_) (fun h => ?_) | refine Run.condND rfl (fun h => ?_) (fun h => ?_) | refine Run.condNB rfl (fun h => ?_) (fun h => ?_) | refine Run.cond rfl (fun h => ?_) (fun h => ?_)) | (with_reducible first | refine seqN (K := Run _ _ _ _) ?_ | refine seqE ?_ | refine seqR ?_ | refine blockN ?_ | refine blockR ?_ | refine blockE ?_) | (with_reducible refine blockX ?_ ?_; exact rfl))
    all_goals first
      | (exfalso; omega)
      | (with_reducible refine seqN ?_
         exact ⟨(j + 1, _), by dsimp only; omega, by dsimp only; omega, Ent.of (by dsimp only; exact slA) (by dsimp only; rw [hst]; exact chA)⟩)
  · subst h9
    rw [List.take_length]
    repeat' (first | (with_reducible first | refine RL.done ?_ | refine RL.app0 ?_ | refine RL.app1 ?_ | refine RL.app2 ?_ | refine RL.app3 ?_ | refine RL.app4 ?_) | (with_reducible refine RL.wanted ?_ ?_; exact rfl) | ((with_reducible show RH _ _ _ ⟨some 5, .buildSlice _ _ _, _, _, _, _⟩ _ _ _ _); refine RH.eff rfl rfl (EOpS.e (EOpS.slit (fun x : Int => [vint x]) _ (fun _ _ => rfl) (by repeat (first | exact Elts.nil | (apply Elts.cons; exact rfl; exact CellsOf.one))) rfl rfl)) ?_; rintro _ _ ⟨b5, rfl, rfl⟩) | ((with_reducible show RH _ _ _ ⟨some 18, .buildSlice _ _ _, _, _, _, _⟩ _ _ _ _); refine RH.eff rfl rfl (EOpS.e (EOpS.slit (fun x : Int => [vint x]) _ (fun _ _ => rfl) (by repeat (first | exact Elts.nil | (apply Elts.cons; exact rfl; exact CellsOf.one))) rfl rfl)) ?_; rintro _ _ ⟨b18, rfl, rfl⟩) | ((with_reducible show RH _ _ _ _ _ _ _ _); first | refine RH.val (hK := ?_) | refine RH.upd (hK := ?_) | (refine RH.lr (h := ?_); intro u)) | (with_reducible first | refine Run.seq ?_ | refine Run.region ?_ | refine Run.block ?_ | refine Run.skip ?_ | refine Run.exit ?_ | refine Run.ret ?_) | (with_reducible show Run _ _ (.cond _ _ _) _ _ _; first | refine Run.condT rfl ?_ | refine Run.condF rfl ?_ | refine Run.condD rfl (fun h => ?_) (fun h => ?_) | refine Run.condND rfl (fun h => ?_) (fun h => ?_) | refine Run.condNB rfl (fun h => ?_) (fun h => ?_) | refine Run.cond rfl (fun h => ?_) (fun h => ?_)) | (with_reducible first | refine seqN (K := Run _ _ _ _) ?_ | refine seqE ?_ | refine seqR ?_ | refine blockN ?_ | refine blockR ?_ | refine blockE ?_) | (with_reducible refine blockX ?_ ?_; exact rfl))
    all_goals first
      | (exfalso; omega)
      | (refine ⟨eA, _, [hsl tInt (vsv s) (digN l)], resA, ?_, ?_⟩
         · exact SEnt.ch chA
         · exact ⟨s, rfl, rfl⟩)
end Go.Proofs.YtemfpennomelaaaDoor
