/- The text of a condition: spec.ConditionText, impl.ConditionText: the same answer. Proved for this program; conditions: lengths below 2^62. -/
import Derived.Test.YtemfpennomelaaaDoorStrC
import Derived.Test.YtemfpennomelaaaDoorCond
namespace Go.Proofs.YtemfpennomelaaaDoor
open Go Go.Proofs
set_option linter.unusedVariables false
def ruleT (y : List Int × List Int) : List UInt8 := digS y.1 ++ [61] ++ digS y.2 ++ [59]
def condT (rs : List (List Int × List Int)) : List UInt8 := (rs.map ruleT).flatten
theorem condT_step {rs : List (List Int × List Int)} {j : Nat} (h : j < rs.length) : condT (rs.take (j + 1)) = condT (rs.take j) ++ digS rs[j].1 ++ [61] ++ digS rs[j].2 ++ [59] := by
  rw [condT, condT, List.take_add_one, List.getElem?_eq_getElem h, List.map_append, List.flatten_append]
  simp [ruleT]
theorem el01 {l : List Int} (h : elB 2 l = true) : ∀ x ∈ l, x = 0 ∨ x = 1 := fun x hx => by
  rw [elB, List.all_eq_true] at h
  have := h x hx
  simp at this
  omega
theorem cond_rule {a : Int} {rs : List (List Int × List Int)} (h : condB a rs = true) : (1 ≤ rs.length ∧ rs.length ≤ 6) ∧ ∀ y ∈ rs, y.1.length ≤ 3 ∧ y.2.length ≤ 3 ∧ (∀ x ∈ y.1, x = 0 ∨ x = 1) ∧ ∀ x ∈ y.2, x = 0 ∨ x = 1 := by
  simp only [condB, Bool.and_eq_true, decide_eq_true_eq, List.all_eq_true] at h
  obtain ⟨h1, h2, h3⟩ := h
  refine ⟨by omega, fun y hy => ?_⟩
  have h4 := h3 y hy
  simp only [ruleB, varB, Bool.and_eq_true, Bool.or_eq_true, decide_eq_true_eq] at h4
  obtain ⟨⟨h5, h6⟩, h7⟩ := h4
  rcases h7 with ⟨h7, h8⟩ | ⟨h7, h8⟩
  · exact ⟨by omega, by omega, el01 h6, el01 h8⟩
  · exact ⟨by omega, by omega, el01 h6, el01 h8⟩
theorem condT_len {rs : List (List Int × List Int)} (h : ∀ y ∈ rs, y.1.length ≤ 3 ∧ y.2.length ≤ 3) : (condT rs).length ≤ 8 * rs.length := by
  induction rs with
  | nil => simp [condT]
  | cons y rs ih =>
    have h1 := h y (by simp)
    have h2 := ih fun z hz => h z (by simp [hz])
    have e : condT (y :: rs) = ruleT y ++ condT rs := rfl
    rw [e, List.length_append, List.length_cons, ruleT]
    simp only [List.length_append, digS_len, List.length_cons, List.length_nil]
    omega
theorem condT_ne {rs : List (List Int × List Int)} (h : 1 ≤ rs.length) : condT rs ≠ [] := by
  cases rs with
  | nil => simp at h
  | cons y rs => simp [condT, ruleT]
abbrev TxtRes (a : Int) (rs : List (List Int × List Int)) (r : VP) (S' : List HP) : Prop := r = vtup [vstr (if condB a rs then bs (condT rs) else .empty), vbool (condB a rs)] ∧ S' = []
set_option maxRecDepth 10000 in
set_option maxHeartbeats 1000000 in
theorem specTxt_c (a : Int) (rs : List (List Int × List Int)) (hl : rs.length ≤ 4611686018427387904) (hr : ∀ y ∈ rs, y.1.length ≤ 4611686018427387904 ∧ y.2.length ≤ 4611686018427387904) :
    Spec Tryd.prog 11 [vagg [vint a, vsl 2 (fun y : (List Int) × (List Int) => [vsl 1 (fun x : Int => [vint x]) y.1, vsl 1 (fun x : Int => [vint x]) y.2]) rs]] [] (TxtRes a rs) := by
  have hgood := l15Good_c a rs hl hr
  cases hc : condB a rs with
  | false =>
    rw [hc] at hgood
    refine Spec.of_run2 (n := 36) Tryd.func11 rfl Tryd.results11 Tryd.ntmps11 rfl ?_
    repeat' (first | (with_reducible first | refine RL.done ?_ | refine RL.app0 ?_ | refine RL.app1 ?_ | refine RL.app2 ?_ | refine RL.app3 ?_ | refine RL.app4 ?_ | refine RD.app0 ?_ | refine RD.app1 ?_ | refine RD.app2 ?_) | (with_reducible refine RL.wanted ?_ ?_; exact rfl) | ((with_reducible show RH _ _ _ ⟨some 1, .box _ _, _, _, _, _⟩ _ _ _ _); first | (refine RH.boxAgg rfl rfl ?_; rintro _ _ ⟨b1, rfl, rfl⟩) | (refine RH.boxOne rfl rfl ?_; rintro _ _ ⟨b1, rfl, rfl⟩)) | ((with_reducible show RH _ _ _ ⟨_, .call ⟨.value (.func 23), _, _⟩, _, _, _, _⟩ _ _ _ _); refine RH.cP Tryd.call23 ?_; refine ⟨_, hgood, ?_⟩; rintro _ _ ⟨rfl, rfl⟩) | ((with_reducible show RH _ _ _ _ _ _ _ _); first | refine RH.val (hK := ?_) | refine RH.upd (hK := ?_) | (refine RH.lr (h := ?_); intro u)) | (with_reducible first | refine Run.seq ?_ | refine Run.region ?_ | refine Run.block ?_ | refine Run.skip ?_ | refine Run.exit ?_ | refine Run.ret ?_) | (with_reducible show Run _ _ (.cond _ _ _) _ _ _; first | refine Run.condT rfl ?_ | refine Run.condF rfl ?_ | refine Run.condD rfl (fun h => ?_) (fun h => ?_) | refine Run.condND rfl (fun h => ?_) (fun h => ?_) | refine Run.condNB rfl (fun h => ?_) (fun h => ?_) | refine Run.cond rfl (fun h => ?_) (fun h => ?_)) | (with_reducible first | refine seqN (K := Run _ _ _ _) ?_ | refine seqE ?_ | refine seqR ?_ | refine blockN ?_ | refine blockR ?_ | refine blockE ?_) | (with_reducible refine blockX ?_ ?_; exact rfl))
    all_goals first
      | (exfalso; simp_all; done)
      | (refine ⟨eA, _, [], resA, .ch .nil, ?_⟩
         exact ⟨by rw [hc]; rfl, rfl⟩)
  | true =>
    rw [hc] at hgood
    obtain ⟨h6, hru⟩ := cond_rule hc
    refine Spec.of_run2 (n := 36) Tryd.func11 rfl Tryd.results11 Tryd.ntmps11 rfl ?_
    repeat' (first | (with_reducible first | refine RL.done ?_ | refine RL.app0 ?_ | refine RL.app1 ?_ | refine RL.app2 ?_ | refine RL.app3 ?_ | refine RL.app4 ?_ | refine RD.app0 ?_ | refine RD.app1 ?_ | refine RD.app2 ?_) | (with_reducible refine RL.wanted ?_ ?_; exact rfl) | ((with_reducible show RH _ _ _ ⟨some 1, .box _ _, _, _, _, _⟩ _ _ _ _); first | (refine RH.boxAgg rfl rfl ?_; rintro _ _ ⟨b1, rfl, rfl⟩) | (refine RH.boxOne rfl rfl ?_; rintro _ _ ⟨b1, rfl, rfl⟩)) | ((with_reducible show RH _ _ _ ⟨_, .call ⟨.value (.func 23), _, _⟩, _, _, _, _⟩ _ _ _ _); refine RH.cP Tryd.call23 ?_; refine ⟨_, hgood, ?_⟩; rintro _ _ ⟨rfl, rfl⟩) | ((with_reducible show RH _ _ _ _ _ _ _ _); first | refine RH.val (hK := ?_) | refine RH.upd (hK := ?_) | (refine RH.lr (h := ?_); intro u)) | (with_reducible first | refine Run.seq ?_ | refine Run.region ?_ | refine Run.block ?_ | refine Run.skip ?_ | refine Run.exit ?_ | refine Run.ret ?_) | (with_reducible show Run _ _ (.cond _ _ _) _ _ _; first | refine Run.condT rfl ?_ | refine Run.condF rfl ?_ | refine Run.condD rfl (fun h => ?_) (fun h => ?_) | refine Run.condND rfl (fun h => ?_) (fun h => ?_) | refine Run.condNB rfl (fun h => ?_) (fun h => ?_) | refine Run.cond rfl (fun h => ?_) (fun h => ?_)) | (with_reducible first | refine seqN (K := Run _ _ _ _) ?_ | refine seqE ?_ | refine seqR ?_ | refine blockN ?_ | refine blockR ?_ | refine blockE ?_) | (with_reducible refine blockX ?_ ?_; exact rfl))
    all_goals first
      | (exfalso; simp_all; done)
      | skip
    refine Run.loop (α := Nat) (fun j => [(1, vptr b1 0), (4, vstr (bs (condT (rs.take j)))), (5, vint (j : Int))]) (fun _ => [hcells b1 [vint a, vsl 2 (fun y : (List Int) × (List Int) => [vsl 1 (fun x : Int => [vint x]) y.1, vsl 1 (fun x : Int => [vint x]) y.2]) rs]]) (fun j => j ≤ rs.length) (fun j => rs.length - j) 0 (Nat.zero_le _) (Ent.of (by (repeat (first | exact Sl.nil | refine Sl.cons rfl rfl ?_ | refine Sl.cons rfl (congrArg (fun z => vlit (Value.int .i64 z)) (by omega)) ?_ | refine Sl.cons rfl (by simp [condT, bs]) ?_))) chA) ?_
    intro j hj
    have hcl := condT_len (rs := rs.take j) fun y hy => let h := hru y (List.mem_of_mem_take hy); ⟨h.1, h.2.1⟩
    have hcl2 : (condT (rs.take j)).length ≤ 48 := by rw [List.length_take] at hcl; omega
    rcases Nat.lt_or_eq_of_le hj with h9 | h9
    · have hd := hru _ (List.getElem_mem h9)
      have hd1 := hd.1
      have hd2 := hd.2.1
      have hl1 := digS_len rs[j].1
      have hl2 := digS_len rs[j].2
      have hst := condT_step h9
      repeat' (first | (with_reducible first | refine RL.done ?_ | refine RL.app0 ?_ | refine RL.app1 ?_ | refine RL.app2 ?_ | refine RL.app3 ?_ | refine RL.app4 ?_ | refine RD.app0 ?_ | refine RD.app1 ?_ | refine RD.app2 ?_) | (with_reducible refine RL.wanted ?_ ?_; exact rfl) | ((with_reducible show Run _ _ (.region 7 _ true) _ _ _); refine Run.regionD (fun i => false) rfl ?_; change RD _ _ _ _ _ _ 20 (dm 20 0) _ _) | ((with_reducible show RD _ _ 7 _ _ _ _ _ _ _); first | ((with_reducible show RD _ _ _ _ _ _ _ (dm 20 0) _ _); refine RD.tk 0 (dm 20 918272) (dm 20 1) (hK := ?_)) | ((with_reducible show RD _ _ _ _ _ _ _ (dm 20 1) _ _); refine RD.tk 1 (dm 20 984052) (dm 20 3) (hK := ?_)) | ((with_reducible show RD _ _ _ _ _ _ _ (dm 20 3) _ _); first | refine RD.tk 2 (dm 20 984048) (dm 20 7) (hK := ?_) | (refine RD.lr 2 (dm 20 984048) (dm 20 7) (h := ?_); intro u)) | ((with_reducible show RD _ _ _ _ _ _ _ (dm 20 7) _ _); refine RD.tk 3 (dm 20 984048) (dm 20 15) (hK := ?_)) | ((with_reducible show RD _ _ _ _ _ _ _ (dm 20 15) _ _); refine RD.tk 4 (dm 20 984032) (dm 20 31) (hK := ?_)) | ((with_reducible show RD _ _ _ _ _ _ _ (dm 20 31) _ _); refine RD.tk 5 (dm 20 984000) (dm 20 63) (hK := ?_)) | ((with_reducible show RD _ _ _ _ _ _ _ (dm 20 63) _ _); first | refine RD.tk 6 (dm 20 983936) (dm 20 127) (hK := ?_) | (refine RD.lr 6 (dm 20 983936) (dm 20 127) (h := ?_); intro u)) | ((with_reducible show RD _ _ _ _ _ _ _ (dm 20 127) _ _); refine RD.tk 10 (dm 20 1042432) (dm 20 1151) (hK := ?_)) | ((with_reducible show RD _ _ _ _ _ _ _ (dm 20 1151) _ _); first | refine RD.tk 11 (dm 20 1040384) (dm 20 3199) (hK := ?_) | (refine RD.lr 11 (dm 20 1040384) (dm 20 3199) (h := ?_); intro u)) | ((with_reducible show RD _ _ _ _ _ _ _ (dm 20 3199) _ _); refine RD.tk 12 (dm 20 1040384) (dm 20 7295) (hK := ?_)) | ((with_reducible show RD _ _ _ _ _ _ _ (dm 20 7295) _ _); refine RD.tk 13 (dm 20 1032192) (dm 20 15487) (hK := ?_)) | ((with_reducible show RD _ _ _ _ _ _ _ (dm 20 15487) _ _); refine RD.tk 14 (dm 20 1015808) (dm 20 31871) (hK := ?_)) | ((with_reducible show RD _ _ _ _ _ _ _ (dm 20 31871) _ _); first | refine RD.tk 15 (dm 20 983040) (dm 20 64639) (hK := ?_) | (refine RD.lr 15 (dm 20 983040) (dm 20 64639) (h := ?_); intro u)) | ((with_reducible show RD _ _ _ _ _ _ _ (dm 20 64639) _ _); refine RD.a1 7 ?_) | ((with_reducible show RD _ _ _ _ _ _ _ (dm 20 64767) _ _); refine RD.tk 8 (dm 20 918016) (dm 20 65023) (hK := ?_)) | ((with_reducible show RD _ _ _ _ _ _ _ (dm 20 65023) _ _); refine RD.tk 9 (dm 20 917504) (dm 20 65535) (hK := ?_)) | ((with_reducible show RD _ _ _ _ _ _ _ (dm 20 65535) _ _); refine RD.a1 16 ?_) | ((with_reducible show RD _ _ _ _ _ _ _ (dm 20 131071) _ _); refine RD.tk 17 (dm 20 786432) (dm 20 262143) (hK := ?_)) | ((with_reducible show RD _ _ _ _ _ _ _ (dm 20 262143) _ _); refine RD.tk 18 (dm 20 524288) (dm 20 524287) (hK := ?_)) | ((with_reducible show RD _ _ _ _ _ _ _ (dm 20 524287) _ _); refine RD.tk 19 (dm 20 0) (dm 20 1048575) (hK := ?_)) | ((with_reducible show RD _ _ _ _ _ _ 0 _ _ _); refine RD.done (by kernel_rfl) ?_)) | ((with_reducible show RO _ _ 7 _ _ _ _ _ _ _ _); first | ((with_reducible show RO _ _ _ _ _ _ _ (dm 20 64639) 7 _ _); (refine RO.cP (dm 20 64767) Tryd.call24 ?_; refine ⟨_, l15Digits_c _ (by first | exact hd.2.2.1 | exact hd.2.2.2) (by omega), ?_⟩; rintro _ _ ⟨rfl, rfl⟩)) | ((with_reducible show RO _ _ _ _ _ _ _ (dm 20 65535) 16 _ _); (refine RO.cP (dm 20 131071) Tryd.call24 ?_; refine ⟨_, l15Digits_c _ (by first | exact hd.2.2.1 | exact hd.2.2.2) (by omega), ?_⟩; rintro _ _ ⟨rfl, rfl⟩))) | ((with_reducible show RH _ _ _ ⟨some 1, .box _ _, _, _, _, _⟩ _ _ _ _); first | (refine RH.boxAgg rfl rfl ?_; rintro _ _ ⟨b1, rfl, rfl⟩) | (refine RH.boxOne rfl rfl ?_; rintro _ _ ⟨b1, rfl, rfl⟩)) | ((with_reducible show RH _ _ _ ⟨_, .call ⟨.value (.func 24), _, _⟩, _, _, _, _⟩ _ _ _ _); refine RH.cP Tryd.call24 ?_; refine ⟨_, l15Digits_c _ (by first | exact hd.2.2.1 | exact hd.2.2.2) (by omega), ?_⟩; rintro _ _ ⟨rfl, rfl⟩) | ((with_reducible show RH _ _ _ _ _ _ _ _); first | refine RH.val (hK := ?_) | refine RH.upd (hK := ?_) | (refine RH.lr (h := ?_); intro u)) | (with_reducible first | refine Run.seq ?_ | refine Run.region ?_ | refine Run.block ?_ | refine Run.skip ?_ | refine Run.exit ?_ | refine Run.ret ?_) | (with_reducible show Run _ _ (.cond _ _ _) _ _ _; first | refine Run.condT rfl ?_ | refine Run.condF rfl ?_ | refine Run.condD rfl (fun h => ?_) (fun h => ?_) | refine Run.condND rfl (fun h => ?_) (fun h => ?_) | refine Run.condNB rfl (fun h => ?_) (fun h => ?_) | refine Run.cond rfl (fun h => ?_) (fun h => ?_)) | (with_reducible first | refine seqN (K := Run _ _ _ _) ?_ | refine seqE ?_ | refine seqR ?_ | refine blockN ?_ | refine blockR ?_ | refine blockE ?_) | (with_reducible refine blockX ?_ ?_; exact rfl))
      all_goals first
        | (exfalso; omega)
        | (with_reducible refine seqN ?_
           exact ⟨j + 1, by omega, by omega, Ent.of (by (try dsimp only); rw [hst, ← bs_app, ← bs_app, ← bs_app, ← bs_app]; exact slA) chA⟩)
    · subst h9
      rw [List.take_length]
      repeat' (first | (with_reducible first | refine RL.done ?_ | refine RL.app0 ?_ | refine RL.app1 ?_ | refine RL.app2 ?_ | refine RL.app3 ?_ | refine RL.app4 ?_ | refine RD.app0 ?_ | refine RD.app1 ?_ | refine RD.app2 ?_) | (with_reducible refine RL.wanted ?_ ?_; exact rfl) | ((with_reducible show RH _ _ _ ⟨some 1, .box _ _, _, _, _, _⟩ _ _ _ _); first | (refine RH.boxAgg rfl rfl ?_; rintro _ _ ⟨b1, rfl, rfl⟩) | (refine RH.boxOne rfl rfl ?_; rintro _ _ ⟨b1, rfl, rfl⟩)) | ((with_reducible show RH _ _ _ _ _ _ _ _); first | refine RH.val (hK := ?_) | refine RH.upd (hK := ?_) | (refine RH.lr (h := ?_); intro u)) | (with_reducible first | refine Run.seq ?_ | refine Run.region ?_ | refine Run.block ?_ | refine Run.skip ?_ | refine Run.exit ?_ | refine Run.ret ?_) | (with_reducible show Run _ _ (.cond _ _ _) _ _ _; first | refine Run.condT rfl ?_ | refine Run.condF rfl ?_ | refine Run.condD rfl (fun h => ?_) (fun h => ?_) | refine Run.condND rfl (fun h => ?_) (fun h => ?_) | refine Run.condNB rfl (fun h => ?_) (fun h => ?_) | refine Run.cond rfl (fun h => ?_) (fun h => ?_)) | (with_reducible first | refine seqN (K := Run _ _ _ _) ?_ | refine seqE ?_ | refine seqR ?_ | refine blockN ?_ | refine blockR ?_ | refine blockE ?_) | (with_reducible refine blockX ?_ ?_; exact rfl))
      all_goals first
        | (exfalso; omega)
        | (refine ⟨eA, _, [], resA, .ch .nil, ?_⟩
           exact ⟨by rw [hc]; rfl, rfl⟩)
set_option maxRecDepth 10000 in
set_option maxHeartbeats 1000000 in
theorem implTxt_c (a : Int) (rs : List (List Int × List Int)) (hl : rs.length ≤ 4611686018427387904) (hr : ∀ y ∈ rs, y.1.length ≤ 4611686018427387904 ∧ y.2.length ≤ 4611686018427387904) :
    Spec Tryd.prog 13 [vagg [vint a, vsl 2 (fun y : (List Int) × (List Int) => [vsl 1 (fun x : Int => [vint x]) y.1, vsl 1 (fun x : Int => [vint x]) y.2]) rs]] [] (TxtRes a rs) := by
  have hgood := implIsCondition_c a rs hl hr
  cases hc : condB a rs with
  | false =>
    rw [hc] at hgood
    refine Spec.of_run2 (n := 27) Tryd.func13 rfl Tryd.results13 Tryd.ntmps13 rfl ?_
    repeat' (first | (with_reducible first | refine RL.done ?_ | refine RL.app0 ?_ | refine RL.app1 ?_ | refine RL.app2 ?_ | refine RL.app3 ?_ | refine RL.app4 ?_) | (with_reducible refine RL.wanted ?_ ?_; exact rfl) | ((with_reducible show RH _ _ _ ⟨some 4, .alloc _, _, _, _, _⟩ _ _ _ _); refine RH.eff rfl rfl (EOp.allocB (us := #[.pointer none, .slice none 0 0]) ⟨_, Tryd.zeroValue58, rfl⟩) ?_; rintro _ _ ⟨b4, rfl, rfl⟩; refine RL.sent (SEnt.bldNew (e := 5)) ?_) | ((with_reducible show RH _ _ _ ⟨some 1, .box _ _, _, _, _, _⟩ _ _ _ _); first | (refine RH.boxAgg rfl rfl ?_; rintro _ _ ⟨b1, rfl, rfl⟩) | (refine RH.boxOne rfl rfl ?_; rintro _ _ ⟨b1, rfl, rfl⟩)) | ((with_reducible show RH _ _ _ ⟨some 4, .alloc _, _, _, _, _⟩ _ _ _ _); refine RH.alloc rfl ?_; rintro _ _ ⟨b4, rfl, rfl⟩) | ((with_reducible show RH _ _ _ ⟨some 6, .alloc _, _, _, _, _⟩ _ _ _ _); refine RH.alloc rfl ?_; rintro _ _ ⟨b6, rfl, rfl⟩) | ((with_reducible show RH _ _ _ ⟨_, .call ⟨.value (.func 26), _, _⟩, _, _, _, _⟩ _ _ _ _); refine RH.cP Tryd.call26 ?_; refine ⟨_, hgood, ?_⟩; rintro _ _ ⟨rfl, rfl⟩) | ((with_reducible show RH _ _ _ _ _ _ _ _); first | refine RH.val (hK := ?_) | refine RH.upd (hK := ?_) | (refine RH.lr (h := ?_); intro u)) | (with_reducible first | refine Run.seq ?_ | refine Run.region ?_ | refine Run.block ?_ | refine Run.skip ?_ | refine Run.exit ?_ | refine Run.ret ?_) | (with_reducible show Run _ _ (.cond _ _ _) _ _ _; first | refine Run.condT rfl ?_ | refine Run.condF rfl ?_ | refine Run.condD rfl (fun h => ?_) (fun h => ?_) | refine Run.condND rfl (fun h => ?_) (fun h => ?_) | refine Run.condNB rfl (fun h => ?_) (fun h => ?_) | refine Run.cond rfl (fun h => ?_) (fun h => ?_)) | (with_reducible first | refine seqN (K := Run _ _ _ _) ?_ | refine seqE ?_ | refine seqR ?_ | refine blockN ?_ | refine blockR ?_ | refine blockE ?_) | (with_reducible refine blockX ?_ ?_; exact rfl))
    all_goals first
      | (exfalso; simp_all; done)
      | (refine ⟨eA, _, [], resA, .ch .nil, ?_⟩
         exact ⟨by rw [hc]; rfl, rfl⟩)
  | true =>
    rw [hc] at hgood
    obtain ⟨h6, hru⟩ := cond_rule hc
    have hne := condT_ne h6.1
    have hcl := condT_len (rs := rs) fun y hy => let h := hru y hy; ⟨h.1, h.2.1⟩
    refine Spec.of_run2 (n := 27) Tryd.func13 rfl Tryd.results13 Tryd.ntmps13 rfl ?_
    repeat' (first | (with_reducible first | refine RL.done ?_ | refine RL.app0 ?_ | refine RL.app1 ?_ | refine RL.app2 ?_ | refine RL.app3 ?_ | refine RL.app4 ?_) | (with_reducible refine RL.wanted ?_ ?_; exact rfl) | ((with_reducible show RH _ _ _ ⟨some 4, .alloc _, _, _, _, _⟩ _ _ _ _); refine RH.eff rfl rfl (EOp.allocB (us := #[.pointer none, .slice none 0 0]) ⟨_, Tryd.zeroValue58, rfl⟩) ?_; rintro _ _ ⟨b4, rfl, rfl⟩; refine RL.sent (SEnt.bldNew (e := 5)) ?_) | ((with_reducible show RH _ _ _ ⟨some 1, .box _ _, _, _, _, _⟩ _ _ _ _); first | (refine RH.boxAgg rfl rfl ?_; rintro _ _ ⟨b1, rfl, rfl⟩) | (refine RH.boxOne rfl rfl ?_; rintro _ _ ⟨b1, rfl, rfl⟩)) | ((with_reducible show RH _ _ _ ⟨some 4, .alloc _, _, _, _, _⟩ _ _ _ _); refine RH.alloc rfl ?_; rintro _ _ ⟨b4, rfl, rfl⟩) | ((with_reducible show RH _ _ _ ⟨some 6, .alloc _, _, _, _, _⟩ _ _ _ _); refine RH.alloc rfl ?_; rintro _ _ ⟨b6, rfl, rfl⟩) | ((with_reducible show RH _ _ _ ⟨_, .call ⟨.value (.func 26), _, _⟩, _, _, _, _⟩ _ _ _ _); refine RH.cP Tryd.call26 ?_; refine ⟨_, hgood, ?_⟩; rintro _ _ ⟨rfl, rfl⟩) | ((with_reducible show RH _ _ _ _ _ _ _ _); first | refine RH.val (hK := ?_) | refine RH.upd (hK := ?_) | (refine RH.lr (h := ?_); intro u)) | (with_reducible first | refine Run.seq ?_ | refine Run.region ?_ | refine Run.block ?_ | refine Run.skip ?_ | refine Run.exit ?_ | refine Run.ret ?_) | (with_reducible show Run _ _ (.cond _ _ _) _ _ _; first | refine Run.condT rfl ?_ | refine Run.condF rfl ?_ | refine Run.condD rfl (fun h => ?_) (fun h => ?_) | refine Run.condND rfl (fun h => ?_) (fun h => ?_) | refine Run.condNB rfl (fun h => ?_) (fun h => ?_) | refine Run.cond rfl (fun h => ?_) (fun h => ?_)) | (with_reducible first | refine seqN (K := Run _ _ _ _) ?_ | refine seqE ?_ | refine seqR ?_ | refine blockN ?_ | refine blockR ?_ | refine blockE ?_) | (with_reducible refine blockX ?_ ?_; exact rfl))
    all_goals first
      | (exfalso; simp_all; done)
      | skip
    refine Run.loop (α := Nat) (fun j => [(1, vptr b1 0), (4, vptr b4 0), (11, vsl 2 (fun y : (List Int) × (List Int) => [vsl 1 (fun x : Int => [vint x]) y.1, vsl 1 (fun x : Int => [vint x]) y.2]) rs), (12, vint (rs.length : Int)), (13, vint (j : Int))]) (fun j => [hbld 58 5 b4 (condT (rs.take j)), hcells b1 [vint a, vsl 2 (fun y : (List Int) × (List Int) => [vsl 1 (fun x : Int => [vint x]) y.1, vsl 1 (fun x : Int => [vint x]) y.2]) rs]]) (fun j => j ≤ rs.length) (fun j => rs.length - j) 0 (Nat.zero_le _) (Ent.of slA (.cons .head rfl chA)) ?_
    intro j hj
    have hcl := condT_len (rs := rs.take j) fun y hy => let h := hru y (List.mem_of_mem_take hy); ⟨h.1, h.2.1⟩
    have hcl2 : (condT (rs.take j)).length ≤ 48 := by rw [List.length_take] at hcl; omega
    rcases Nat.lt_or_eq_of_le hj with h9 | h9
    · have hd := hru _ (List.getElem_mem h9)
      have hd1 := hd.1
      have hd2 := hd.2.1
      have hst := condT_step h9
      repeat' (first | (with_reducible first | refine RL.done ?_ | refine RL.app0 ?_ | refine RL.app1 ?_ | refine RL.app2 ?_ | refine RL.app3 ?_ | refine RL.app4 ?_) | (with_reducible refine RL.wanted ?_ ?_; exact rfl) | ((with_reducible show RH _ _ _ ⟨some 1, .box _ _, _, _, _, _⟩ _ _ _ _); first | (refine RH.boxAgg rfl rfl ?_; rintro _ _ ⟨b1, rfl, rfl⟩) | (refine RH.boxOne rfl rfl ?_; rintro _ _ ⟨b1, rfl, rfl⟩)) | ((with_reducible show RH _ _ _ ⟨some 4, .alloc _, _, _, _, _⟩ _ _ _ _); refine RH.alloc rfl ?_; rintro _ _ ⟨b4, rfl, rfl⟩) | ((with_reducible show RH _ _ _ ⟨some 6, .alloc _, _, _, _, _⟩ _ _ _ _); refine RH.alloc rfl ?_; rintro _ _ ⟨b6, rfl, rfl⟩) | ((with_reducible show RH _ _ _ ⟨_, .call ⟨.value (.func 27), _, _⟩, _, _, _, _⟩ _ _ _ _); refine RH.cW Tryd.call27 ?_; refine ⟨_, _, _, (by repeat (first | exact Pick.nil | (apply Pick.cons; (with_reducible repeat (first | exact Rem.head | apply Rem.tail))))), writeDigits_c b4 _ _ (by first | exact hd.2.2.1 | exact hd.2.2.2) (by first | omega | (simp only [List.length_append, digS_len, List.length_cons, List.length_nil]; omega)), ?_⟩; rintro _ _ ⟨rfl, rfl⟩; refine RL.nm ?_) | ((with_reducible show RH _ _ _ ⟨_, .call ⟨.value (.func 28), _, _⟩, _, _, _, _⟩ _ _ _ _); refine RH.cW Tryd.call28 ?_; refine ⟨_, _, _, (by repeat (first | exact Pick.nil | (apply Pick.cons; (with_reducible repeat (first | exact Rem.head | apply Rem.tail))))), writeBs_c b4 _ _ (by first | omega | (simp only [List.length_append, digS_len, List.length_cons, List.length_nil]; omega)), ?_⟩; rintro _ _ ⟨rfl, rfl⟩; refine RL.nm ?_) | ((with_reducible show RH _ _ _ _ _ _ _ _); first | refine RH.val (hK := ?_) | refine RH.upd (hK := ?_) | (refine RH.lr (h := ?_); intro u)) | (with_reducible first | refine Run.seq ?_ | refine Run.region ?_ | refine Run.block ?_ | refine Run.skip ?_ | refine Run.exit ?_ | refine Run.ret ?_) | (with_reducible show Run _ _ (.cond _ _ _) _ _ _; first | refine Run.condT rfl ?_ | refine Run.condF rfl ?_ | refine Run.condD rfl (fun h => ?_) (fun h => ?_) | refine Run.condND rfl (fun h => ?_) (fun h => ?_) | refine Run.condNB rfl (fun h => ?_) (fun h => ?_) | refine Run.cond rfl (fun h => ?_) (fun h => ?_)) | (with_reducible first | refine seqN (K := Run _ _ _ _) ?_ | refine seqE ?_ | refine seqR ?_ | refine blockN ?_ | refine blockR ?_ | refine blockE ?_) | (with_reducible refine blockX ?_ ?_; exact rfl))
      all_goals first
        | (exfalso; omega)
        | (with_reducible refine seqN ?_
           exact ⟨j + 1, by omega, by omega, Ent.of slA (by rw [hst]; exact chA)⟩)
    · subst h9
      rw [List.take_length]
      repeat' (first | (with_reducible first | refine RL.done ?_ | refine RL.app0 ?_ | refine RL.app1 ?_ | refine RL.app2 ?_ | refine RL.app3 ?_ | refine RL.app4 ?_) | (with_reducible refine RL.wanted ?_ ?_; exact rfl) | ((with_reducible show RH _ _ _ ⟨some 1, .box _ _, _, _, _, _⟩ _ _ _ _); first | (refine RH.boxAgg rfl rfl ?_; rintro _ _ ⟨b1, rfl, rfl⟩) | (refine RH.boxOne rfl rfl ?_; rintro _ _ ⟨b1, rfl, rfl⟩)) | ((with_reducible show RH _ _ _ ⟨some 4, .alloc _, _, _, _, _⟩ _ _ _ _); refine RH.alloc rfl ?_; rintro _ _ ⟨b4, rfl, rfl⟩) | ((with_reducible show RH _ _ _ ⟨some 6, .alloc _, _, _, _, _⟩ _ _ _ _); refine RH.alloc rfl ?_; rintro _ _ ⟨b6, rfl, rfl⟩) | ((with_reducible show RH _ _ _ ⟨_, .call ⟨.value (.func 29), _, _⟩, _, _, _, _⟩ _ _ _ _); refine RH.cW Tryd.call29 ?_; refine ⟨_, _, _, (by repeat (first | exact Pick.nil | (apply Pick.cons; (with_reducible repeat (first | exact Rem.head | apply Rem.tail))))), string_c b4 (condT rs) hne (by omega), ?_⟩; rintro _ _ ⟨rfl, rfl⟩; refine RL.nm ?_) | ((with_reducible show RH _ _ _ _ _ _ _ _); first | refine RH.val (hK := ?_) | refine RH.upd (hK := ?_) | (refine RH.lr (h := ?_); intro u)) | (with_reducible first | refine Run.seq ?_ | refine Run.region ?_ | refine Run.block ?_ | refine Run.skip ?_ | refine Run.exit ?_ | refine Run.ret ?_) | (with_reducible show Run _ _ (.cond _ _ _) _ _ _; first | refine Run.condT rfl ?_ | refine Run.condF rfl ?_ | refine Run.condD rfl (fun h => ?_) (fun h => ?_) | refine Run.condND rfl (fun h => ?_) (fun h => ?_) | refine Run.condNB rfl (fun h => ?_) (fun h => ?_) | refine Run.cond rfl (fun h => ?_) (fun h => ?_)) | (with_reducible first | refine seqN (K := Run _ _ _ _) ?_ | refine seqE ?_ | refine seqR ?_ | refine blockN ?_ | refine blockR ?_ | refine blockE ?_) | (with_reducible refine blockX ?_ ?_; exact rfl))
      all_goals first
        | (exfalso; omega)
        | (refine ⟨eA, _, [], resA, .ch .nil, ?_⟩
           exact ⟨by rw [hc]; rfl, rfl⟩)
end Go.Proofs.YtemfpennomelaaaDoor
