/- Values of operations in the free algebra, homomorphisms from it: spec and impl: the same answer. Proved for this program; conditions: lengths below 2^62. -/
import Derived.Test.YtejeeokjjbiadaaFree
namespace Go.Proofs.Ytejeeokjjbiadaa
open Go Go.Proofs
set_option linter.unusedVariables false
/-- a list in a pair of results, frozen at the end of a call -/
theorem Spec.frzTup {P : Program} {f : FuncId} {args : List VP} {S : List HP} {α : Type} {t : TR α} {r : α → List VP} [Frz t r] {xs : List α} {q : VP} (hv : Spec P f args S (fun p S' => ∃ s : Sv, p = vtup [vlit (vsv s), q] ∧ S' = [hsl t (vsv s) xs])) :
    Spec P f args S (fun p S' => p = vtup [vsl t.k r xs, q] ∧ S' = []) :=
  ⟨fun c vs ha hs => (hv.run c vs ha hs).mono fun e w' ⟨v, F', p, S', h1, h2, h3, h4, s, h5, h6⟩ => by
    subst h5 h6
    obtain ⟨F2, k1, _, k2⟩ := (Ent.frzKn (φ := []) (r := r) .head) ⟨F', c.U, w'⟩ 0 { tmps := #[], defers := [] } ⟨rfl, rfl, fun t p h => by cases h⟩ h4
    obtain ⟨fs, k3⟩ := k2
    obtain ⟨f1, gs, rfl, k4⟩ := k3.head
    obtain ⟨us, rfl, k5⟩ := (vtup [vlit (vsv s), q]).mono k1.v h3
    cases k5 with
    | cons k6 k7 =>
      refine ⟨_, F2, vtup [vsl t.k r xs, q], [], h1, h2.trans k1, ⟨_, rfl, .cons ?_ k7⟩, SEnt.drop _ _ k3, rfl, rfl⟩
      rw [show _ = vsv s from k6]
      exact k4.2⟩
theorem freeS_frz {n : Int} {os : List (Int × List Int)} {k : Int} {o : Option (List (List Int))} (hoo : FreeIs n os k o) (hol : os.length ≤ 4611686018427387904) (ho : OpsLen os) {X : List (List Int)} (hO : genO (rankB n os k) o = some X) :
    Spec Try.prog 77 [vagg [vint n, vsl 2 (fun y : Int × (List Int) => [vint y.1, vsl 1 (fun x : Int => [vint x]) y.2]) os], vint k] [] (fun r S' => r = vtup [vsl 1 (fun t : List Int => [vsl 1 (fun x : Int => [vint x]) t]) X, vbool true] ∧ S' = []) := Spec.frzTup (t := tS tInt) (freeS_yes hoo hol ho hO)
/-- the value of an operation -/
def fvalB (os : List (Int × List Int)) (op : Int) (ns : List Int) (X : List (List Int)) : Bool := decide (0 ≤ op ∧ op < (os.length : Int)) && (decide ((ns.length : Int) = (os.getD op.toNat (0, [])).1) && elB (X.length : Int) ns)
def fvalV (n : Int) (os : List (Int × List Int)) (k op : Int) (ns : List Int) (o : Option (List (List Int))) : Option Int := match o with
  | none => none
  | some X => if fvalB os op ns X then some (placeOf X (applyT n (os.getD op.toNat (0, [])).2 (chosen X ns) (fLen n k.toNat)) : Int) else none
theorem os_get (os : List (Int × List Int)) (x : Int) (h : x.toNat < os.length) : os.getD x.toNat (0, []) = os[x.toNat] := by
  rw [List.getD_eq_getElem?_getD, List.getElem?_eq_getElem h]; rfl
theorem chosen_st (xs : List (List Int)) (ns : List Int) (q : Nat) (hq : q < ns.length) (hx : (ns[q]).toNat < xs.length) : chosen xs (ns.take (q + 1)) = chosen xs (ns.take q) ++ [xs[(ns[q]).toNat]] := by
  rw [chosen, chosen, List.take_add_one, List.getElem?_eq_getElem hq, List.map_append, Option.toList_some, List.map_singleton, List.getD_eq_getElem?_getD, List.getElem?_eq_getElem hx]; rfl
theorem el_all {m : Int} {l : List Int} (h : elB m l = true) : ∀ x ∈ l, 0 ≤ x ∧ x < m := fun x hx => by
  rw [elB, List.all_eq_true] at h
  simpa using h x hx
abbrev ValRes (o : Option Int) (r : VP) (S' : List HP) : Prop := r = vtup [vint (o.getD 0), vbool o.isSome] ∧ S' = []
theorem fval_ok {n : Int} {os : List (Int × List Int)} {k : Int} {X : List (List Int)} (hg : rankB n os k = true) (hF : FreeOk n os k X) {op : Nat} (hop : op < os.length) {ns : List Int} (hl : (ns.length : Int) = os[op].1) (he : elB (X.length : Int) ns = true) :
    ns.length ≤ 3 ∧ (∀ x ∈ ns, 0 ≤ x ∧ x.toNat < X.length) ∧ ApOk n os[op].2 (chosen X ns) (fLen n k.toNat) ∧ applyT n os[op].2 (chosen X ns) (fLen n k.toNat) ∈ X := by
  obtain ⟨ha, hk, hp⟩ := rankB_at hg
  obtain ⟨hfl, hf1, hf64⟩ := fLen_at hg
  obtain ⟨_, _, _, hops⟩ := algB_at ha
  have hm := List.getElem_mem hop
  have h5 := hops _ hm
  simp only [opB, Bool.and_eq_true, decide_eq_true_eq] at h5
  have hnum : ∀ x ∈ ns, 0 ≤ x ∧ x.toNat < X.length := fun x hx => by have := el_all he x hx; omega
  have hch : ∀ u, u ∈ chosen X ns → u ∈ X := fun u hu => by
    obtain ⟨x, hx, rfl⟩ := List.mem_map.1 hu
    rw [List.getD_eq_getElem?_getD, List.getElem?_eq_getElem (hnum x hx).2]
    exact List.getElem_mem _
  have hcl : (chosen X ns).length = os[op].1.toNat := by simp [chosen]; omega
  exact ⟨by omega, hnum, ap_ok ha (by omega) hm hcl (fun w hw => hF.tup _ (hch w hw)), hF.cl _ hm _ hcl hch⟩
set_option maxRecDepth 10000 in
theorem l2Takes_c (n : Int) (os : List (Int × List Int)) (op : Int) (hol : os.length ≤ 4611686018427387904) (ho : OpsLen os) (ha : algB n os = true) :
    Spec Try.prog 84 [vagg [vint n, vsl 2 (fun y : Int × (List Int) => [vint y.1, vsl 1 (fun x : Int => [vint x]) y.2]) os], vint op] [] (fun r S' => r = vbool (decide (0 ≤ op ∧ op < (os.length : Int))) ∧ S' = []) := by
  have hG := l2Good_c n os hol ho
  rw [ha] at hG
  refine Spec.of_run2 (n := 15) Try.func84 rfl Try.results84 Try.ntmps84 rfl ?_
  repeat' (first | (with_reducible first | refine RL.done ?_ | refine RL.app0 ?_) | (with_reducible refine RL.wanted ?_ ?_; exact rfl) | ((with_reducible show RH _ _ _ ⟨some 2, .box _ _, _, _, _, _⟩ _ _ _ _); (refine RH.boxAgg rfl rfl ?_; rintro _ _ ⟨b2, rfl, rfl⟩)) | ((with_reducible show RH _ _ _ ⟨_, .call ⟨.value (.func 94), _, _⟩, _, _, _, _⟩ _ _ _ _); refine RH.cP Try.call94 ?_; refine ⟨_, hG, ?_⟩; rintro _ _ ⟨rfl, rfl⟩) | ((with_reducible show RH _ _ _ ⟨_, .call ⟨.value (.func 78), _, _⟩, _, _, _, _⟩ _ _ _ _); refine RH.cP Try.call78 ?_; refine ⟨_, l1In_c _ _ _, ?_⟩; rintro _ _ ⟨rfl, rfl⟩) | ((with_reducible show RH _ _ _ _ _ _ _ _); refine RH.val (hK := ?_)) | (with_reducible show RL _ _ _ (_ :: _) _ _ _; refine RL.guardYes rfl rfl rfl rfl ?_) | (with_reducible first | refine Run.seq ?_ | refine Run.region ?_ | refine Run.ret ?_) | (with_reducible refine seqN (K := Run _ _ _ _) ?_))
  all_goals first
    | (refine ⟨eA, _, [], resA, .ch .nil, ?_⟩
       exact ⟨congrArg vbool (decide_eq_decide.2 (by omega)), rfl⟩)
    | (exfalso; simp_all; done)
set_option maxRecDepth 10000 in
theorem hasOp_c (n : Int) (os : List (Int × List Int)) (op : Int) (hol : os.length ≤ 4611686018427387904) (ho : OpsLen os) (ha : algB n os = true) :
    Spec Try.prog 89 [vagg [vint n, vsl 2 (fun y : Int × (List Int) => [vint y.1, vsl 1 (fun x : Int => [vint x]) y.2]) os], vint op] [] (fun r S' => r = vbool (decide (0 ≤ op ∧ op < (os.length : Int))) ∧ S' = []) := by
  have hG := isAlgebra_c n os hol ho
  rw [ha] at hG
  refine Spec.of_run2 (n := 18) Try.func89 rfl Try.results89 Try.ntmps89 rfl ?_
  repeat' (first | (with_reducible first | refine RL.done ?_ | refine RL.app0 ?_) | (with_reducible refine RL.wanted ?_ ?_; exact rfl) | ((with_reducible show RH _ _ _ ⟨some 2, .box _ _, _, _, _, _⟩ _ _ _ _); (refine RH.boxAgg rfl rfl ?_; rintro _ _ ⟨b2, rfl, rfl⟩)) | ((with_reducible show RH _ _ _ ⟨_, .call ⟨.value (.func 96), _, _⟩, _, _, _, _⟩ _ _ _ _); refine RH.cP Try.call96 ?_; refine ⟨_, hG, ?_⟩; rintro _ _ ⟨rfl, rfl⟩) | ((with_reducible show RH _ _ _ _ _ _ _ _); refine RH.val (hK := ?_)) | (with_reducible show RL _ _ _ (_ :: _) _ _ _; first | refine RL.guardYes rfl rfl rfl rfl ?_ | refine RL.guardNoS rfl rfl rfl rfl rfl rfl ?_ | refine RL.splitD rfl rfl rfl (fun h => ?_) (fun h => ?_)) | (with_reducible first | refine Run.seq ?_ | refine Run.region ?_ | refine Run.ret ?_) | (with_reducible refine seqN (K := Run _ _ _ _) ?_))
  all_goals first
    | (refine ⟨eA, _, [], resA, .ch .nil, ?_⟩
       exact ⟨congrArg vbool (decide_eq_decide.2 (by omega)), rfl⟩)
    | (refine ⟨eA, _, [], resA, .ch .nil, ?_⟩
       exact ⟨congrArg vbool (decide_eq_false (by omega)).symm, rfl⟩)
    | (refine ⟨eA, _, [], resA, .ch .nil, ?_⟩
       exact ⟨congrArg vbool (decide_eq_true (by omega)).symm, rfl⟩)
    | (exfalso; simp_all; done)
set_option maxRecDepth 10000 in
set_option maxHeartbeats 2000000 in
theorem specFval_c (n : Int) (os : List (Int × List Int)) (k op : Int) (ns : List Int) (o : Option (List (List Int))) (hoo : FreeIs n os k o) (hol : os.length ≤ 4611686018427387904) (ho : OpsLen os) (hnl : ns.length ≤ 4611686018427387904) :
    Spec Try.prog 22 [vagg [vint n, vsl 2 (fun y : Int × (List Int) => [vint y.1, vsl 1 (fun x : Int => [vint x]) y.2]) os], vint k, vint op, vsl 1 (fun x : Int => [vint x]) ns] [] (ValRes (fvalV n os k op ns (genO (rankB n os k) o))) := by
  cases hO : genO (rankB n os k) o with
  | none =>
    refine Spec.of_run2 (n := 62) Try.func22 rfl Try.results22 Try.ntmps22 rfl ?_
    repeat' (first | (with_reducible first | refine RL.done ?_ | refine RL.app1 ?_) | (with_reducible refine RL.wanted ?_ ?_; exact rfl) | ((with_reducible show RH _ _ _ ⟨some 4, .box _ _, _, _, _, _⟩ _ _ _ _); (refine RH.boxAgg rfl rfl ?_; rintro _ _ ⟨b4, rfl, rfl⟩)) | ((with_reducible show RH _ _ _ ⟨_, .call ⟨.value (.func 77), _, _⟩, _, _, _, _⟩ _ _ _ _); refine RH.cP Try.call77 ?_; refine ⟨_, freeS_no hoo hol ho hO, ?_⟩; rintro _ _ ⟨s8, rfl, rfl⟩) | ((with_reducible show RH _ _ _ _ _ _ _ _); refine RH.val (hK := ?_)) | (with_reducible show RL _ _ _ (_ :: _) _ _ _; refine RL.guardNoS rfl rfl rfl rfl rfl rfl ?_) | (with_reducible first | refine Run.seq ?_ | refine Run.region ?_ | refine Run.ret ?_) | (with_reducible show Run _ _ (.cond _ _ _) _ _ _; refine Run.condT rfl ?_) | (with_reducible first | refine seqN (K := Run _ _ _ _) ?_ | refine seqR ?_))
    all_goals (refine ⟨eA, _, [], resA, .ch .nil, ?_⟩
               exact ⟨rfl, rfl⟩)
  | some X =>
    obtain ⟨hg, rfl⟩ := genO_some hO
    have hF := free_ok hg hoo
    obtain ⟨ha, hk, hp⟩ := rankB_at hg
    obtain ⟨hn1, hn8, _, _⟩ := algB_at ha
    obtain ⟨hfl, hf1, hf64⟩ := fLen_at hg
    have hfew := hF.few
    have hT := l2Takes_c n os op hol ho ha
    have hE := l2Elements_c (X.length : Int) ns (by omega) hnl
    by_cases h1 : 0 ≤ op ∧ op < (os.length : Int)
    · rw [decide_eq_true h1] at hT
      have hol2 : op.toNat < os.length := by omega
      by_cases h2 : (ns.length : Int) = os[op.toNat].1
      · cases he : elB (X.length : Int) ns with
        | true =>
          rw [he] at hE
          obtain ⟨hn3, hnum, hap, hin⟩ := fval_ok hg hF hol2 h2 he
          have hXl : ∀ u ∈ X, u.length = (applyT n os[op.toNat].2 (chosen X ns) (fLen n k.toNat)).length := fun u hu => by rw [applyT_length]; exact (hF.tup u hu).1
          have hpow := l2Pow_c n k.toNat (by omega) (by omega) (by omega)
          rw [← hfl, Int.toNat_of_nonneg hk.1] at hpow
          have hA2 := l8Apply_c n os op.toNat hol2 (by omega) (chosen X ns) (fLen n k.toNat) hap
          rw [Int.toNat_of_nonneg h1.1] at hA2
          have e : fvalV n os k op ns (some X) = some (placeOf X (applyT n os[op.toNat].2 (chosen X ns) (fLen n k.toNat)) : Int) := by
            rw [fvalV, if_pos (by rw [fvalB, os_get os op hol2, decide_eq_true h1, decide_eq_true h2, he]; rfl), os_get os op hol2]
          rw [e]
          refine Spec.of_run2 (n := 62) Try.func22 rfl Try.results22 Try.ntmps22 rfl ?_
          repeat' (first | (with_reducible first | refine RL.done ?_ | refine RL.app0 ?_ | refine RD.app0 ?_) | (with_reducible refine RL.wanted ?_ ?_; exact rfl) | ((with_reducible show Run _ _ (.region 4 _ true) _ _ _); refine Run.regionD (fun i => false) rfl ?_; change RD _ _ _ _ _ _ 17 (dm 17 0) _ _) | ((with_reducible show RD _ _ 4 _ _ _ _ _ _ _); first | ((with_reducible show RD _ _ _ _ _ _ _ (dm 17 0) _ _); refine RD.tk 0 (dm 17 129024) (dm 17 1) (hK := ?_)) | ((with_reducible show RD _ _ _ _ _ _ _ (dm 17 1) _ _); refine RD.tk 1 (dm 17 130048) (dm 17 3) (hK := ?_)) | ((with_reducible show RD _ _ _ _ _ _ _ (dm 17 3) _ _); refine RD.tk 2 (dm 17 130048) (dm 17 7) (hK := ?_)) | ((with_reducible show RD _ _ _ _ _ _ _ (dm 17 7) _ _); refine RD.tk 3 (dm 17 130592) (dm 17 15) (hK := ?_)) | ((with_reducible show RD _ _ _ _ _ _ _ (dm 17 15) _ _); refine RD.tk 4 (dm 17 130592) (dm 17 31) (hK := ?_)) | ((with_reducible show RD _ _ _ _ _ _ _ (dm 17 31) _ _); refine RD.tk 6 (dm 17 130688) (dm 17 95) (hK := ?_)) | ((with_reducible show RD _ _ _ _ _ _ _ (dm 17 95) _ _); refine RD.tk 7 (dm 17 130560) (dm 17 223) (hK := ?_)) | ((with_reducible show RD _ _ _ _ _ _ _ (dm 17 223) _ _); refine RD.tk 8 (dm 17 130560) (dm 17 479) (hK := ?_)) | ((with_reducible show RD _ _ _ _ _ _ _ (dm 17 479) _ _); refine RD.a1 5 ?_) | ((with_reducible show RD _ _ _ _ _ _ _ (dm 17 511) _ _); refine RD.a1 9 ?_) | ((with_reducible show RD _ _ _ _ _ _ _ (dm 17 1023) _ _); refine RD.a1 10 ?_) | ((with_reducible show RD _ _ _ _ _ _ _ (dm 17 2047) _ _); refine RD.a1 11 ?_) | ((with_reducible show RD _ _ _ _ _ _ _ (dm 17 4095) _ _); refine RD.tk 12 (dm 17 122880) (dm 17 8191) (hK := ?_)) | ((with_reducible show RD _ _ _ _ _ _ _ (dm 17 8191) _ _); refine RD.tk 13 (dm 17 98304) (dm 17 16383) (hK := ?_)) | ((with_reducible show RD _ _ _ _ _ _ _ (dm 17 16383) _ _); refine RD.tk 14 (dm 17 65536) (dm 17 32767) (hK := ?_)) | ((with_reducible show RD _ _ _ _ _ _ _ (dm 17 32767) _ _); refine RD.tk 15 (dm 17 65536) (dm 17 65535) (hK := ?_)) | ((with_reducible show RD _ _ _ _ _ _ _ (dm 17 65535) _ _); refine RD.tk 16 (dm 17 0) (dm 17 131071) (hK := ?_)) | ((with_reducible show RD _ _ _ _ _ _ 0 _ _ _); refine RD.done (by kernel_rfl) ?_)) | ((with_reducible show RO _ _ 4 _ _ _ _ _ _ _ _); first | ((with_reducible show RO _ _ _ _ _ _ _ (dm 17 479) 5 _ _); (refine RO.lit 50 rfl ?_; intro vals hvals; refine RO.cL (dm 17 511) Try.call88 ?_; apply Exists.intro; apply And.intro; (focus ((repeat (first | exact LVs.nil | apply LVs.refl)); done)); refine ⟨_, l8Choose_c vals ns (by exact fun x hx => ⟨(hnum x hx).1, hvals ▸ (hnum x hx).2⟩) (by omega), (by intro r H h; first | (obtain ⟨rfl, rfl⟩ := h; exact ⟨inferInstance, inferInstance⟩) | (obtain ⟨_, rfl, rfl⟩ := h; exact ⟨inferInstance, inferInstance⟩) | (obtain ⟨_, _, rfl, rfl⟩ := h; exact ⟨inferInstance, inferInstance⟩) | (obtain ⟨_, _, rfl, rfl, _⟩ := h; exact ⟨inferInstance, inferInstance⟩)), ?_⟩; rintro _ _ ⟨s52, rfl, rfl⟩; refine RD.app1 ?_; refine RD.unlit hnum ?_)) | ((with_reducible show RO _ _ _ _ _ _ _ (dm 17 511) 9 _ _); (refine RO.cP (dm 17 1023) Try.call80 ?_; refine ⟨_, hpow, ?_⟩; rintro _ _ ⟨rfl, rfl⟩)) | ((with_reducible show RO _ _ _ _ _ _ _ (dm 17 1023) 10 _ _); (refine RO.cL (dm 17 2047) Try.call87 ?_; apply Exists.intro; apply And.intro; (focus ((repeat (first | exact LVs.nil | apply LVs.agg | apply LVs.refl)); done)); refine ⟨_, hA2, (by intro r H h; first | (obtain ⟨rfl, rfl⟩ := h; exact ⟨inferInstance, inferInstance⟩) | (obtain ⟨_, rfl, rfl⟩ := h; exact ⟨inferInstance, inferInstance⟩) | (obtain ⟨_, _, rfl, rfl⟩ := h; exact ⟨inferInstance, inferInstance⟩) | (obtain ⟨_, _, rfl, rfl, _⟩ := h; exact ⟨inferInstance, inferInstance⟩)), ?_⟩; rintro _ _ ⟨s57, rfl, rfl⟩; refine RD.app1 ?_; refine RD.frzI ?_)) | ((with_reducible show RO _ _ _ _ _ _ _ (dm 17 2047) 11 _ _); (refine RO.cP (dm 17 4095) Try.call86 ?_; refine ⟨_, l8Find_c X _ (by omega) (by rw [applyT_length]; omega) (by exact hXl) hF.srt, ?_⟩; rintro _ _ ⟨rfl, rfl⟩))) | ((with_reducible show RH _ _ _ ⟨some 4, .box _ _, _, _, _, _⟩ _ _ _ _); (refine RH.boxAgg rfl rfl ?_; rintro _ _ ⟨b4, rfl, rfl⟩)) | ((with_reducible show RH _ _ _ ⟨_, .call ⟨.value (.func 77), _, _⟩, _, _, _, _⟩ _ _ _ _); refine RH.cP Try.call77 ?_; refine ⟨_, freeS_frz hoo hol ho hO, ?_⟩; rintro _ _ ⟨rfl, rfl⟩) | ((with_reducible show RH _ _ _ ⟨_, .call ⟨.value (.func 84), _, _⟩, _, _, _, _⟩ _ _ _ _); refine RH.cP Try.call84 ?_; refine ⟨_, hT, ?_⟩; rintro _ _ ⟨rfl, rfl⟩) | ((with_reducible show RH _ _ _ ⟨_, .call ⟨.value (.func 85), _, _⟩, _, _, _, _⟩ _ _ _ _); refine RH.cP Try.call85 ?_; refine ⟨_, hE, ?_⟩; rintro _ _ ⟨rfl, rfl⟩) | ((with_reducible show RH _ _ _ _ _ _ _ _); refine RH.val (hK := ?_)) | (with_reducible show RL _ _ _ (_ :: _) _ _ _; first | refine RL.guardYes rfl rfl rfl rfl ?_ | refine RL.guardNoS rfl rfl rfl rfl rfl rfl ?_ | refine RL.splitD rfl rfl rfl (fun h => ?_) (fun h => ?_)) | (with_reducible first | refine Run.seq ?_ | refine Run.region ?_ | refine Run.skip ?_ | refine Run.ret ?_) | (with_reducible show Run _ _ (.cond _ _ _) _ _ _; first | refine Run.condT rfl ?_ | refine Run.condF rfl ?_) | (with_reducible first | refine seqN (K := Run _ _ _ _) ?_ | refine seqR ?_))
          all_goals first
            | (exfalso; omega)
            | (exfalso; simp_all; done)
            | (refine ⟨eA, _, [], resA, .ch .nil, ?_⟩
               exact ⟨rfl, rfl⟩)
        | false =>
          rw [he] at hE
          have e : fvalV n os k op ns (some X) = none := by rw [fvalV, if_neg (by rw [fvalB, he]; simp)]
          rw [e]
          refine Spec.of_run2 (n := 62) Try.func22 rfl Try.results22 Try.ntmps22 rfl ?_
          repeat' (first | (with_reducible first | refine RL.done ?_ | refine RL.app0 ?_) | (with_reducible refine RL.wanted ?_ ?_; exact rfl) | ((with_reducible show RH _ _ _ ⟨some 4, .box _ _, _, _, _, _⟩ _ _ _ _); (refine RH.boxAgg rfl rfl ?_; rintro _ _ ⟨b4, rfl, rfl⟩)) | ((with_reducible show RH _ _ _ ⟨_, .call ⟨.value (.func 77), _, _⟩, _, _, _, _⟩ _ _ _ _); refine RH.cP Try.call77 ?_; refine ⟨_, freeS_frz hoo hol ho hO, ?_⟩; rintro _ _ ⟨rfl, rfl⟩) | ((with_reducible show RH _ _ _ ⟨_, .call ⟨.value (.func 84), _, _⟩, _, _, _, _⟩ _ _ _ _); refine RH.cP Try.call84 ?_; refine ⟨_, hT, ?_⟩; rintro _ _ ⟨rfl, rfl⟩) | ((with_reducible show RH _ _ _ ⟨_, .call ⟨.value (.func 85), _, _⟩, _, _, _, _⟩ _ _ _ _); refine RH.cP Try.call85 ?_; refine ⟨_, hE, ?_⟩; rintro _ _ ⟨rfl, rfl⟩) | ((with_reducible show RH _ _ _ _ _ _ _ _); refine RH.val (hK := ?_)) | (with_reducible show RL _ _ _ (_ :: _) _ _ _; first | refine RL.guardYes rfl rfl rfl rfl ?_ | refine RL.guardNoS rfl rfl rfl rfl rfl rfl ?_ | refine RL.splitD rfl rfl rfl (fun h => ?_) (fun h => ?_)) | (with_reducible first | refine Run.seq ?_ | refine Run.region ?_ | refine Run.ret ?_) | (with_reducible show Run _ _ (.cond _ _ _) _ _ _; refine Run.condT rfl ?_) | (with_reducible first | refine seqN (K := Run _ _ _ _) ?_ | refine seqR ?_))
          all_goals first
            | (exfalso; omega)
            | (exfalso; simp_all; done)
            | (refine ⟨eA, _, [], resA, .ch .nil, ?_⟩
               exact ⟨rfl, rfl⟩)
      · have e : fvalV n os k op ns (some X) = none := by rw [fvalV, if_neg (by rw [fvalB, os_get os op hol2, decide_eq_false h2]; simp)]
        rw [e]
        refine Spec.of_run2 (n := 62) Try.func22 rfl Try.results22 Try.ntmps22 rfl ?_
        repeat' (first | (with_reducible first | refine RL.done ?_ | refine RL.app0 ?_) | (with_reducible refine RL.wanted ?_ ?_; exact rfl) | ((with_reducible show RH _ _ _ ⟨some 4, .box _ _, _, _, _, _⟩ _ _ _ _); (refine RH.boxAgg rfl rfl ?_; rintro _ _ ⟨b4, rfl, rfl⟩)) | ((with_reducible show RH _ _ _ ⟨_, .call ⟨.value (.func 77), _, _⟩, _, _, _, _⟩ _ _ _ _); refine RH.cP Try.call77 ?_; refine ⟨_, freeS_frz hoo hol ho hO, ?_⟩; rintro _ _ ⟨rfl, rfl⟩) | ((with_reducible show RH _ _ _ ⟨_, .call ⟨.value (.func 84), _, _⟩, _, _, _, _⟩ _ _ _ _); refine RH.cP Try.call84 ?_; refine ⟨_, hT, ?_⟩; rintro _ _ ⟨rfl, rfl⟩) | ((with_reducible show RH _ _ _ _ _ _ _ _); refine RH.val (hK := ?_)) | (with_reducible show RL _ _ _ (_ :: _) _ _ _; first | refine RL.guardYes rfl rfl rfl rfl ?_ | refine RL.guardNoS rfl rfl rfl rfl rfl rfl ?_ | refine RL.splitD rfl rfl rfl (fun h => ?_) (fun h => ?_)) | (with_reducible first | refine Run.seq ?_ | refine Run.region ?_ | refine Run.ret ?_) | (with_reducible show Run _ _ (.cond _ _ _) _ _ _; refine Run.condT rfl ?_) | (with_reducible first | refine seqN (K := Run _ _ _ _) ?_ | refine seqR ?_))
        all_goals first
          | (exfalso; omega)
          | (refine ⟨eA, _, [], resA, .ch .nil, ?_⟩
             exact ⟨rfl, rfl⟩)
    · rw [decide_eq_false h1] at hT
      have e : fvalV n os k op ns (some X) = none := by rw [fvalV, if_neg (by rw [fvalB, decide_eq_false h1]; simp)]
      rw [e]
      refine Spec.of_run2 (n := 62) Try.func22 rfl Try.results22 Try.ntmps22 rfl ?_
      repeat' (first | (with_reducible first | refine RL.done ?_ | refine RL.app0 ?_) | (with_reducible refine RL.wanted ?_ ?_; exact rfl) | ((with_reducible show RH _ _ _ ⟨some 4, .box _ _, _, _, _, _⟩ _ _ _ _); (refine RH.boxAgg rfl rfl ?_; rintro _ _ ⟨b4, rfl, rfl⟩)) | ((with_reducible show RH _ _ _ ⟨_, .call ⟨.value (.func 77), _, _⟩, _, _, _, _⟩ _ _ _ _); refine RH.cP Try.call77 ?_; refine ⟨_, freeS_frz hoo hol ho hO, ?_⟩; rintro _ _ ⟨rfl, rfl⟩) | ((with_reducible show RH _ _ _ ⟨_, .call ⟨.value (.func 84), _, _⟩, _, _, _, _⟩ _ _ _ _); refine RH.cP Try.call84 ?_; refine ⟨_, hT, ?_⟩; rintro _ _ ⟨rfl, rfl⟩) | ((with_reducible show RH _ _ _ _ _ _ _ _); refine RH.val (hK := ?_)) | (with_reducible show RL _ _ _ (_ :: _) _ _ _; first | refine RL.guardYes rfl rfl rfl rfl ?_ | refine RL.guardNoS rfl rfl rfl rfl rfl rfl ?_) | (with_reducible first | refine Run.seq ?_ | refine Run.region ?_ | refine Run.ret ?_) | (with_reducible show Run _ _ (.cond _ _ _) _ _ _; refine Run.condT rfl ?_) | (with_reducible first | refine seqN (K := Run _ _ _ _) ?_ | refine seqR ?_))
      all_goals first
        | (exfalso; omega)
        | (refine ⟨eA, _, [], resA, .ch .nil, ?_⟩
           exact ⟨rfl, rfl⟩)
set_option maxRecDepth 10000 in
set_option maxHeartbeats 2000000 in
theorem value_c (n a : Int) (os : List (Int × List Int)) (tb : List Int) (m : Nat) (k2 : Nat) (G : List (List Int)) (X : List (List Int)) (ns : List Int) (b bs bm : Nat) (kv : KV) (hn3 : ns.length ≤ 3) (hm64 : m ≤ 64) (hnum : ∀ x ∈ ns, 0 ≤ x ∧ x.toNat < X.length) (hap : ApOk n tb (chosen X ns) m) (hin : applyT n tb (chosen X ns) m ∈ X) (hkv : KvOk X kv) (hfew : X.length ≤ 300) :
    Spec Try.prog 91 [vptr b 0, vagg [vint a, vsl 1 (fun x : Int => [vint x]) tb], vsl 1 (fun x : Int => [vint x]) ns] [hcells bs [vint n, vsl 2 (fun y : Int × (List Int) => [vint y.1, vsl 1 (fun x : Int => [vint x]) y.2]) os, vint (m : Int), vsl 1 (fun t : List Int => [vsl 1 (fun x : Int => [vint x]) t]) X, vmap bm], hcells b [vptr bs 0, vint (k2 : Int), vsl 1 (fun t : List Int => [vsl 1 (fun x : Int => [vint x]) t]) G], hmapI bm kv]
      (fun r S' => r = vint (placeOf X (applyT n tb (chosen X ns) m) : Int) ∧ S' = []) := by
  refine Spec.of_run2 (n := 57) Try.func91 rfl Try.results91 Try.ntmps91 rfl ?_
  repeat' (first | (with_reducible refine RL.done ?_) | (with_reducible refine RL.wanted ?_ ?_; exact rfl) | ((with_reducible show RH _ _ _ ⟨some 4, .box _ _, _, _, _, _⟩ _ _ _ _); (refine RH.boxAgg rfl rfl ?_; rintro _ _ ⟨b4, rfl, rfl⟩)) | ((with_reducible show RH _ _ _ ⟨some 10, .buildSlice _ _ _, _, _, _, _⟩ _ _ _ _); (refine RH.eff rfl rfl (EOpS.e (EOpS.slitV (by ((repeat (first | exact Elts.nil | apply Elts.one1 rfl | apply Elts.agg2 rfl)); done)) (by simp) rfl rfl)) ?_; rintro _ _ ⟨b10, rfl, rfl⟩)) | ((with_reducible show RH _ _ _ _ _ _ _ _); refine RH.val (hK := ?_)) | (with_reducible first | refine Run.seq ?_ | refine Run.region ?_ | refine Run.block ?_) | (with_reducible refine seqN (K := Run _ _ _ _) ?_))
  refine Run.sent (T := [hsl tRow (vsv (some ⟨b10, 0, none⟩, 0, 0)) [], hcells b4 [vint a, vsl 1 (fun x : Int => [vint x]) tb], hcells bs [vint n, vsl 2 (fun y : Int × (List Int) => [vint y.1, vsl 1 (fun x : Int => [vint x]) y.2]) os, vint (m : Int), vsl 1 (fun t : List Int => [vsl 1 (fun x : Int => [vint x]) t]) X, vmap bm], hcells b [vptr bs 0, vint (k2 : Int), vsl 1 (fun t : List Int => [vsl 1 (fun x : Int => [vint x]) t]) G], hmapI bm kv]) (SEnt.packNil tRow rfl) ?_
  refine Run.loop (α := Nat × Sv) (fun z => [(0, vptr b 0), (4, vptr b4 0), (7, vlit (vsv z.2)), (11, vsl 1 (fun x : Int => [vint x]) ns), (12, vint (ns.length : Int)), (13, vint (z.1 : Int))])
    (fun z => [hsl tRow (vsv z.2) (chosen X (ns.take z.1)), hcells b4 [vint a, vsl 1 (fun x : Int => [vint x]) tb], hcells bs [vint n, vsl 2 (fun y : Int × (List Int) => [vint y.1, vsl 1 (fun x : Int => [vint x]) y.2]) os, vint (m : Int), vsl 1 (fun t : List Int => [vsl 1 (fun x : Int => [vint x]) t]) X, vmap bm], hcells b [vptr bs 0, vint (k2 : Int), vsl 1 (fun t : List Int => [vsl 1 (fun x : Int => [vint x]) t]) G], hmapI bm kv])
    (fun z => z.1 ≤ ns.length) (fun z => ns.length - z.1) (0, (some ⟨b10, 0, none⟩, 0, 0)) (Nat.zero_le _) (Ent.of slA .refl) ?_
  rintro ⟨q, sq⟩ hq
  dsimp only at hq ⊢
  have hcl : (chosen X (ns.take q)).length = q := by simp [chosen]; omega
  rcases Nat.lt_or_eq_of_le hq with h7 | h7
  · have hxq := hnum _ (List.getElem_mem h7)
    have hdq := chosen_st X ns q h7 hxq.2
    repeat' (first | (with_reducible refine RL.done ?_) | (with_reducible refine RL.wanted ?_ ?_; exact rfl) | ((with_reducible show RH _ _ _ ⟨some 28, .buildSlice _ _ _, _, _, _, _⟩ _ _ _ _); (refine RH.eff rfl rfl (EOpS.e (EOpS.slit (fun t : List Int => [vsl 1 (fun x : Int => [vint x]) t]) _ (fun _ _ => rfl) (by ((repeat (first | exact Elts.nil | (apply Elts.cons; exact rfl; exact CellsOf.one))); done)) rfl rfl)) ?_; rintro _ _ ⟨b28, rfl, rfl⟩)) | ((with_reducible show RH _ _ _ ⟨_, .call ⟨.builtin .append, _, _⟩, _, _, _, _⟩ _ _ _ _); (refine RH.appF rfl rfl rfl (by repeat (first | exact Pick.nil | (apply Pick.cons; (with_reducible repeat (first | exact Rem.head | apply Rem.tail))))) (by first | omega | (simp; omega)) (by first | omega | (simp; omega)) ?_); rintro _ _ ⟨s, rfl, rfl⟩) | ((with_reducible show RH _ _ _ _ _ _ _ _); refine RH.val (hK := ?_)) | (with_reducible first | refine Run.seq ?_ | refine Run.region ?_ | refine Run.block ?_ | refine Run.skip ?_ | refine Run.exit ?_) | (with_reducible show Run _ _ (.cond _ _ _) _ _ _; refine Run.condD rfl (fun h => ?_) (fun h => ?_)) | (with_reducible first | refine seqN (K := Run _ _ _ _) ?_ | refine seqE ?_ | refine blockN ?_ | refine blockE ?_))
    all_goals first
      | (exfalso; omega)
      | (with_reducible refine seqN ?_
         exact ⟨(q + 1, _), by dsimp only; omega, by dsimp only; omega, Ent.of (by dsimp only; exact slA) (by dsimp only; rw [hdq]; exact chA)⟩)
  · subst h7
    rw [List.take_length]
    repeat' (first | (with_reducible first | refine RL.done ?_ | refine RD.app0 ?_) | (with_reducible refine RL.wanted ?_ ?_; exact rfl) | ((with_reducible show Run _ _ (.region 7 _ true) _ _ _); refine Run.regionD (fun i => false) rfl ?_; change RD _ _ _ _ _ _ 27 (dm 27 0) _ _) | ((with_reducible show RD _ _ 7 _ _ _ _ _ _ _); first | ((with_reducible show RD _ _ _ _ _ _ _ (dm 27 0) _ _); refine RD.tk 0 (dm 27 100663422) (dm 27 1) (hK := ?_)) | ((with_reducible show RD _ _ _ _ _ _ _ (dm 27 1) _ _); refine RD.tk 1 (dm 27 100663420) (dm 27 3) (hK := ?_)) | ((with_reducible show RD _ _ _ _ _ _ _ (dm 27 3) _ _); refine RD.tk 2 (dm 27 100663416) (dm 27 7) (hK := ?_)) | ((with_reducible show RD _ _ _ _ _ _ _ (dm 27 7) _ _); refine RD.tk 3 (dm 27 100663408) (dm 27 15) (hK := ?_)) | ((with_reducible show RD _ _ _ _ _ _ _ (dm 27 15) _ _); refine RD.tk 4 (dm 27 100663392) (dm 27 31) (hK := ?_)) | ((with_reducible show RD _ _ _ _ _ _ _ (dm 27 31) _ _); refine RD.tk 5 (dm 27 100663360) (dm 27 63) (hK := ?_)) | ((with_reducible show RD _ _ _ _ _ _ _ (dm 27 63) _ _); refine RD.tk 6 (dm 27 100663296) (dm 27 127) (hK := ?_)) | ((with_reducible show RD _ _ _ _ _ _ _ (dm 27 127) _ _); refine RD.tk 7 (dm 27 125845248) (dm 27 255) (hK := ?_)) | ((with_reducible show RD _ _ _ _ _ _ _ (dm 27 255) _ _); refine RD.tk 8 (dm 27 125844992) (dm 27 511) (hK := ?_)) | ((with_reducible show RD _ _ _ _ _ _ _ (dm 27 511) _ _); refine RD.tk 9 (dm 27 125844480) (dm 27 1023) (hK := ?_)) | ((with_reducible show RD _ _ _ _ _ _ _ (dm 27 1023) _ _); refine RD.tk 10 (dm 27 125843456) (dm 27 2047) (hK := ?_)) | ((with_reducible show RD _ _ _ _ _ _ _ (dm 27 2047) _ _); refine RD.tk 11 (dm 27 125841408) (dm 27 4095) (hK := ?_)) | ((with_reducible show RD _ _ _ _ _ _ _ (dm 27 4095) _ _); refine RD.tk 12 (dm 27 125837312) (dm 27 8191) (hK := ?_)) | ((with_reducible show RD _ _ _ _ _ _ _ (dm 27 8191) _ _); refine RD.tk 13 (dm 27 125829120) (dm 27 16383) (hK := ?_)) | ((with_reducible show RD _ _ _ _ _ _ _ (dm 27 16383) _ _); refine RD.tk 14 (dm 27 125829120) (dm 27 32767) (hK := ?_)) | ((with_reducible show RD _ _ _ _ _ _ _ (dm 27 32767) _ _); refine RD.tk 15 (dm 27 129957888) (dm 27 65535) (hK := ?_)) | ((with_reducible show RD _ _ _ _ _ _ _ (dm 27 65535) _ _); refine RD.tk 16 (dm 27 129892352) (dm 27 131071) (hK := ?_)) | ((with_reducible show RD _ _ _ _ _ _ _ (dm 27 131071) _ _); refine RD.tk 17 (dm 27 129761280) (dm 27 262143) (hK := ?_)) | ((with_reducible show RD _ _ _ _ _ _ _ (dm 27 262143) _ _); refine RD.tk 18 (dm 27 129499136) (dm 27 524287) (hK := ?_)) | ((with_reducible show RD _ _ _ _ _ _ _ (dm 27 524287) _ _); refine RD.tk 19 (dm 27 128974848) (dm 27 1048575) (hK := ?_)) | ((with_reducible show RD _ _ _ _ _ _ _ (dm 27 1048575) _ _); refine RD.tk 20 (dm 27 127926272) (dm 27 2097151) (hK := ?_)) | ((with_reducible show RD _ _ _ _ _ _ _ (dm 27 2097151) _ _); refine RD.tk 21 (dm 27 125829120) (dm 27 4194303) (hK := ?_)) | ((with_reducible show RD _ _ _ _ _ _ _ (dm 27 4194303) _ _); refine RD.tk 22 (dm 27 125829120) (dm 27 8388607) (hK := ?_)) | ((with_reducible show RD _ _ _ _ _ _ _ (dm 27 8388607) _ _); refine RD.a1 23 ?_) | ((with_reducible show RD _ _ _ _ _ _ _ (dm 27 16777215) _ _); refine RD.a1 24 ?_) | ((with_reducible show RD _ _ _ _ _ _ _ (dm 27 33554431) _ _); refine RD.tk 25 (dm 27 67108864) (dm 27 67108863) (hK := ?_)) | ((with_reducible show RD _ _ _ _ _ _ _ (dm 27 67108863) _ _); refine RD.tk 26 (dm 27 0) (dm 27 134217727) (hK := ?_)) | ((with_reducible show RD _ _ _ _ _ _ 0 _ _ _); refine RD.done (by kernel_rfl) ?_)) | ((with_reducible show RO _ _ 7 _ _ _ _ _ _ _ _); first | ((with_reducible show RO _ _ _ _ _ _ _ (dm 27 8388607) 23 _ _); (refine RO.cL (dm 27 16777215) Try.call156 ?_; apply Exists.intro; apply And.intro; (focus ((repeat (first | exact LVs.nil | (apply LVs.sl; (with_reducible repeat (first | exact Has.head | apply Has.tail)); exact inferInstance; exact rfl) | apply LVs.agg | apply LVs.refl)); done)); refine ⟨_, applyTuples_c n a os tb (chosen X ns) m hap, (by intro r H h; first | (obtain ⟨rfl, rfl⟩ := h; exact ⟨inferInstance, inferInstance⟩) | (obtain ⟨_, rfl, rfl⟩ := h; exact ⟨inferInstance, inferInstance⟩) | (obtain ⟨_, _, rfl, rfl⟩ := h; exact ⟨inferInstance, inferInstance⟩) | (obtain ⟨_, _, rfl, rfl, _⟩ := h; exact ⟨inferInstance, inferInstance⟩)), ?_⟩; rintro _ _ ⟨s54, rfl, rfl⟩; refine RD.app1 ?_; refine RD.frzI ?_)) | ((with_reducible show RO _ _ _ _ _ _ _ (dm 27 16777215) 24 _ _); (refine RO.cP (dm 27 33554431) Try.call147 ?_; refine ⟨_, keyOf_c (applyT n tb (chosen X ns) m) (by rw [applyT_length]; omega), ?_⟩; rintro _ _ ⟨rfl, rfl⟩))) | ((with_reducible show RH _ _ _ ⟨some 28, .buildSlice _ _ _, _, _, _, _⟩ _ _ _ _); (refine RH.eff rfl rfl (EOpS.e (EOpS.slit (fun t : List Int => [vsl 1 (fun x : Int => [vint x]) t]) _ (fun _ _ => rfl) (by ((repeat (first | exact Elts.nil | (apply Elts.cons; exact rfl; exact CellsOf.one))); done)) rfl rfl)) ?_; rintro _ _ ⟨b28, rfl, rfl⟩)) | ((with_reducible show RH _ _ _ _ _ _ _ _); refine RH.val (hK := ?_)) | (with_reducible first | refine Run.seq ?_ | refine Run.region ?_ | refine Run.block ?_ | refine Run.skip ?_ | refine Run.exit ?_ | refine Run.ret ?_) | (with_reducible show Run _ _ (.cond _ _ _) _ _ _; refine Run.condD rfl (fun h => ?_) (fun h => ?_)) | (with_reducible first | refine seqN (K := Run _ _ _ _) ?_ | refine seqE ?_ | refine blockE ?_))
    all_goals first
      | (exfalso; omega)
      | (refine ⟨eA, _, [], resA, .ch .nil, ?_⟩
         exact ⟨by rw [hkv _ hin]; rfl, rfl⟩)
set_option maxRecDepth 10000 in
set_option maxHeartbeats 2000000 in
theorem implFval_c (n : Int) (os : List (Int × List Int)) (k op : Int) (ns : List Int) (o : Option (List (List Int))) (hoo : FreeIs n os k o) (hol : os.length ≤ 4611686018427387904) (ho : OpsLen os) (hnl : ns.length ≤ 4611686018427387904) :
    Spec Try.prog 24 [vagg [vint n, vsl 2 (fun y : Int × (List Int) => [vint y.1, vsl 1 (fun x : Int => [vint x]) y.2]) os], vint k, vint op, vsl 1 (fun x : Int => [vint x]) ns] [] (ValRes (fvalV n os k op ns (genO (rankB n os k) o))) := by
  cases hO : genO (rankB n os k) o with
  | none =>
    refine Spec.of_run2 (n := 58) Try.func24 rfl Try.results24 Try.ntmps24 rfl ?_
    repeat' (first | (with_reducible first | refine RL.done ?_ | refine RL.app0 ?_) | (with_reducible refine RL.wanted ?_ ?_; exact rfl) | ((with_reducible show RH _ _ _ ⟨some 4, .box _ _, _, _, _, _⟩ _ _ _ _); (refine RH.boxAgg rfl rfl ?_; rintro _ _ ⟨b4, rfl, rfl⟩)) | ((with_reducible show RH _ _ _ ⟨_, .call ⟨.value (.func 82), _, _⟩, _, _, _, _⟩ _ _ _ _); refine RH.cP Try.call82 ?_; refine ⟨_, freeI_no hoo hol ho hO, ?_⟩; rintro _ _ ⟨rfl, rfl⟩) | ((with_reducible show RH _ _ _ _ _ _ _ _); refine RH.val (hK := ?_)) | (with_reducible show RL _ _ _ (_ :: _) _ _ _; refine RL.guardNoS rfl rfl rfl rfl rfl rfl ?_) | (with_reducible first | refine Run.seq ?_ | refine Run.region ?_ | refine Run.ret ?_) | (with_reducible show Run _ _ (.cond _ _ _) _ _ _; refine Run.condT rfl ?_) | (with_reducible first | refine seqN (K := Run _ _ _ _) ?_ | refine seqR ?_))
    all_goals (refine ⟨eA, _, [], resA, .ch .nil, ?_⟩
               exact ⟨rfl, rfl⟩)
  | some X =>
    obtain ⟨hg, rfl⟩ := genO_some hO
    have hF := free_ok hg hoo
    obtain ⟨ha, hk, hp⟩ := rankB_at hg
    obtain ⟨hfl, hf1, hf64⟩ := fLen_at hg
    have hfew := hF.few
    have hT := hasOp_c n os op hol ho ha
    have hE := inSize_c (X.length : Int) ns hnl
    by_cases h1 : 0 ≤ op ∧ op < (os.length : Int)
    · rw [decide_eq_true h1] at hT
      have hol2 : op.toNat < os.length := by omega
      by_cases h2 : (ns.length : Int) = os[op.toNat].1
      · cases he : elB (X.length : Int) ns with
        | true =>
          rw [he] at hE
          obtain ⟨hn3, hnum, hap, hin⟩ := fval_ok hg hF hol2 h2 he
          have e : fvalV n os k op ns (some X) = some (placeOf X (applyT n os[op.toNat].2 (chosen X ns) (fLen n k.toNat)) : Int) := by
            rw [fvalV, if_pos (by rw [fvalB, os_get os op hol2, decide_eq_true h1, decide_eq_true h2, he]; rfl), os_get os op hol2]
          rw [e]
          refine Spec.of_run2 (n := 58) Try.func24 rfl Try.results24 Try.ntmps24 rfl ?_
          repeat' (first | (with_reducible first | refine RL.done ?_ | refine RL.app0 ?_ | refine RL.app3 ?_) | (with_reducible refine RL.wanted ?_ ?_; exact rfl) | ((with_reducible show RH _ _ _ ⟨some 4, .box _ _, _, _, _, _⟩ _ _ _ _); (refine RH.boxAgg rfl rfl ?_; rintro _ _ ⟨b4, rfl, rfl⟩)) | ((with_reducible show RH _ _ _ ⟨_, .call ⟨.value (.func 82), _, _⟩, _, _, _, _⟩ _ _ _ _); refine RH.cP Try.call82 ?_; refine ⟨_, freeI_frz hoo hol ho hO, ?_⟩; rintro _ _ ⟨b, bs, bm, kv, rfl, rfl, hkv⟩) | ((with_reducible show RH _ _ _ ⟨_, .call ⟨.value (.func 89), _, _⟩, _, _, _, _⟩ _ _ _ _); refine RH.cP Try.call89 ?_; refine ⟨_, hT, ?_⟩; rintro _ _ ⟨rfl, rfl⟩) | ((with_reducible show RH _ _ _ ⟨_, .call ⟨.value (.func 90), _, _⟩, _, _, _, _⟩ _ _ _ _); refine RH.cP Try.call90 ?_; refine ⟨_, hE, ?_⟩; rintro _ _ ⟨rfl, rfl⟩) | ((with_reducible show RH _ _ _ ⟨_, .call ⟨.value (.func 91), _, _⟩, _, _, _, _⟩ _ _ _ _); refine RH.cW Try.call91 ?_; refine ⟨_, _, _, (by repeat (first | exact Pick.nil | (apply Pick.cons; (with_reducible repeat (first | exact Rem.head | apply Rem.tail))))), value_c n os[op.toNat].1 os os[op.toNat].2 (fLen n k.toNat) k.toNat (gensF n k.toNat) X ns b bs bm kv hn3 (by omega) hnum hap hin hkv hfew, ?_⟩; rintro _ _ ⟨rfl, rfl⟩; refine RL.nm ?_) | ((with_reducible show RH _ _ _ _ _ _ _ _); refine RH.val (hK := ?_)) | (with_reducible show RL _ _ _ (_ :: _) _ _ _; first | refine RL.guardYes rfl rfl rfl rfl ?_ | refine RL.guardNoS rfl rfl rfl rfl rfl rfl ?_ | refine RL.splitD rfl rfl rfl (fun h => ?_) (fun h => ?_)) | (with_reducible first | refine Run.seq ?_ | refine Run.region ?_ | refine Run.skip ?_ | refine Run.ret ?_) | (with_reducible show Run _ _ (.cond _ _ _) _ _ _; first | refine Run.condT rfl ?_ | refine Run.condF rfl ?_) | (with_reducible first | refine seqN (K := Run _ _ _ _) ?_ | refine seqR ?_))
          all_goals first
            | (exfalso; omega)
            | (exfalso; simp_all; done)
            | (refine ⟨eA, _, [], resA, .ch .nil, ?_⟩
               exact ⟨rfl, rfl⟩)
        | false =>
          rw [he] at hE
          have e : fvalV n os k op ns (some X) = none := by rw [fvalV, if_neg (by rw [fvalB, he]; simp)]
          rw [e]
          refine Spec.of_run2 (n := 58) Try.func24 rfl Try.results24 Try.ntmps24 rfl ?_
          repeat' (first | (with_reducible first | refine RL.done ?_ | refine RL.app0 ?_ | refine RL.app3 ?_) | (with_reducible refine RL.wanted ?_ ?_; exact rfl) | ((with_reducible show RH _ _ _ ⟨some 4, .box _ _, _, _, _, _⟩ _ _ _ _); (refine RH.boxAgg rfl rfl ?_; rintro _ _ ⟨b4, rfl, rfl⟩)) | ((with_reducible show RH _ _ _ ⟨_, .call ⟨.value (.func 82), _, _⟩, _, _, _, _⟩ _ _ _ _); refine RH.cP Try.call82 ?_; refine ⟨_, freeI_frz hoo hol ho hO, ?_⟩; rintro _ _ ⟨b, bs, bm, kv, rfl, rfl, hkv⟩) | ((with_reducible show RH _ _ _ ⟨_, .call ⟨.value (.func 89), _, _⟩, _, _, _, _⟩ _ _ _ _); refine RH.cP Try.call89 ?_; refine ⟨_, hT, ?_⟩; rintro _ _ ⟨rfl, rfl⟩) | ((with_reducible show RH _ _ _ ⟨_, .call ⟨.value (.func 90), _, _⟩, _, _, _, _⟩ _ _ _ _); refine RH.cP Try.call90 ?_; refine ⟨_, hE, ?_⟩; rintro _ _ ⟨rfl, rfl⟩) | ((with_reducible show RH _ _ _ _ _ _ _ _); refine RH.val (hK := ?_)) | (with_reducible show RL _ _ _ (_ :: _) _ _ _; first | refine RL.guardYes rfl rfl rfl rfl ?_ | refine RL.guardNoS rfl rfl rfl rfl rfl rfl ?_ | refine RL.splitD rfl rfl rfl (fun h => ?_) (fun h => ?_)) | (with_reducible first | refine Run.seq ?_ | refine Run.region ?_ | refine Run.ret ?_) | (with_reducible show Run _ _ (.cond _ _ _) _ _ _; refine Run.condT rfl ?_) | (with_reducible first | refine seqN (K := Run _ _ _ _) ?_ | refine seqR ?_))
          all_goals first
            | (exfalso; omega)
            | (exfalso; simp_all; done)
            | (refine ⟨eA, _, [], resA, .ch .nil, ?_⟩
               exact ⟨rfl, rfl⟩)
      · have e : fvalV n os k op ns (some X) = none := by rw [fvalV, if_neg (by rw [fvalB, os_get os op hol2, decide_eq_false h2]; simp)]
        rw [e]
        refine Spec.of_run2 (n := 58) Try.func24 rfl Try.results24 Try.ntmps24 rfl ?_
        repeat' (first | (with_reducible first | refine RL.done ?_ | refine RL.app0 ?_ | refine RL.app3 ?_) | (with_reducible refine RL.wanted ?_ ?_; exact rfl) | ((with_reducible show RH _ _ _ ⟨some 4, .box _ _, _, _, _, _⟩ _ _ _ _); (refine RH.boxAgg rfl rfl ?_; rintro _ _ ⟨b4, rfl, rfl⟩)) | ((with_reducible show RH _ _ _ ⟨_, .call ⟨.value (.func 82), _, _⟩, _, _, _, _⟩ _ _ _ _); refine RH.cP Try.call82 ?_; refine ⟨_, freeI_frz hoo hol ho hO, ?_⟩; rintro _ _ ⟨b, bs, bm, kv, rfl, rfl, hkv⟩) | ((with_reducible show RH _ _ _ ⟨_, .call ⟨.value (.func 89), _, _⟩, _, _, _, _⟩ _ _ _ _); refine RH.cP Try.call89 ?_; refine ⟨_, hT, ?_⟩; rintro _ _ ⟨rfl, rfl⟩) | ((with_reducible show RH _ _ _ _ _ _ _ _); refine RH.val (hK := ?_)) | (with_reducible show RL _ _ _ (_ :: _) _ _ _; first | refine RL.guardYes rfl rfl rfl rfl ?_ | refine RL.guardNoS rfl rfl rfl rfl rfl rfl ?_ | refine RL.splitD rfl rfl rfl (fun h => ?_) (fun h => ?_)) | (with_reducible first | refine Run.seq ?_ | refine Run.region ?_ | refine Run.ret ?_) | (with_reducible show Run _ _ (.cond _ _ _) _ _ _; refine Run.condT rfl ?_) | (with_reducible first | refine seqN (K := Run _ _ _ _) ?_ | refine seqR ?_))
        all_goals first
          | (exfalso; omega)
          | (refine ⟨eA, _, [], resA, .ch .nil, ?_⟩
             exact ⟨rfl, rfl⟩)
    · rw [decide_eq_false h1] at hT
      have e : fvalV n os k op ns (some X) = none := by rw [fvalV, if_neg (by rw [fvalB, decide_eq_false h1]; simp)]
      rw [e]
      refine Spec.of_run2 (n := 58) Try.func24 rfl Try.results24 Try.ntmps24 rfl ?_
      repeat' (first | (with_reducible first | refine RL.done ?_ | refine RL.app0 ?_ | refine RL.app3 ?_) | (with_reducible refine RL.wanted ?_ ?_; exact rfl) | ((with_reducible show RH _ _ _ ⟨some 4, .box _ _, _, _, _, _⟩ _ _ _ _); (refine RH.boxAgg rfl rfl ?_; rintro _ _ ⟨b4, rfl, rfl⟩)) | ((with_reducible show RH _ _ _ ⟨_, .call ⟨.value (.func 82), _, _⟩, _, _, _, _⟩ _ _ _ _); refine RH.cP Try.call82 ?_; refine ⟨_, freeI_frz hoo hol ho hO, ?_⟩; rintro _ _ ⟨b, bs, bm, kv, rfl, rfl, hkv⟩) | ((with_reducible show RH _ _ _ ⟨_, .call ⟨.value (.func 89), _, _⟩, _, _, _, _⟩ _ _ _ _); refine RH.cP Try.call89 ?_; refine ⟨_, hT, ?_⟩; rintro _ _ ⟨rfl, rfl⟩) | ((with_reducible show RH _ _ _ _ _ _ _ _); refine RH.val (hK := ?_)) | (with_reducible show RL _ _ _ (_ :: _) _ _ _; first | refine RL.guardYes rfl rfl rfl rfl ?_ | refine RL.guardNoS rfl rfl rfl rfl rfl rfl ?_) | (with_reducible first | refine Run.seq ?_ | refine Run.region ?_ | refine Run.ret ?_) | (with_reducible show Run _ _ (.cond _ _ _) _ _ _; refine Run.condT rfl ?_) | (with_reducible first | refine seqN (K := Run _ _ _ _) ?_ | refine seqR ?_))
      all_goals first
        | (exfalso; omega)
        | (refine ⟨eA, _, [], resA, .ch .nil, ?_⟩
           exact ⟨rfl, rfl⟩)
end Go.Proofs.Ytejeeokjjbiadaa
