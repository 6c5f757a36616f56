/- laws.FnExactFreeAlgebra answers true. Proved for this program; no conditions. -/
import Derived.Test.YtejeeokjjbiadaaAofP
import Derived.Test.YtejeeokjjbiadaaFreeV
import Derived.Test.YtejeeokjjbiadaaFreeSm
namespace Go.Proofs.Ytejeeokjjbiadaa
open Go Go.Proofs
set_option linter.unusedVariables false
set_option maxRecDepth 10000 in
set_option maxHeartbeats 4000000 in
theorem l8Algebra_c (n : Int) (os : List (Int × List Int)) (k : Nat) (X : List (List Int)) (ha : algB n os = true) (hk : 1 ≤ k ∧ k ≤ 64) (htup : ∀ t ∈ X, TupOk n k t) (hsd : Sorted X) (hcu : ClosedU n os k X) (hX : 1 ≤ X.length ∧ X.length ≤ 8) :
    Spec Try.prog 79 [vagg [vint n, vsl 2 (fun y : Int × (List Int) => [vint y.1, vsl 1 (fun x : Int => [vint x]) y.2]) os], vint (k : Int), vsl 1 (fun t : List Int => [vsl 1 (fun x : Int => [vint x]) t]) X] [] (fun r S' => ∃ s : Sv, r = vagg [vint (X.length : Int), vlit (vsv s)] ∧ S' = [hsl (tPair tInt (tS tInt)) (vsv s) (algOps n k X os)]) := by
  obtain ⟨hn1, hn8, ho4, hops⟩ := algB_at ha
  refine Spec.of_run2 (n := 71) Try.func79 rfl Try.results79 Try.ntmps79 rfl ?_
  repeat' (first | (with_reducible refine RL.done ?_) | (with_reducible refine RL.wanted ?_ ?_; exact rfl) | ((with_reducible show RH _ _ _ ⟨some 3, .box _ _, _, _, _, _⟩ _ _ _ _); (refine RH.boxAgg rfl rfl ?_; rintro _ _ ⟨b3, rfl, rfl⟩)) | ((with_reducible show RH _ _ _ ⟨some 6, .alloc _, _, _, _, _⟩ _ _ _ _); refine RH.alloc rfl ?_; rintro _ _ ⟨b6, rfl, rfl⟩) | ((with_reducible show RH _ _ _ ⟨some 15, .buildSlice _ _ _, _, _, _, _⟩ _ _ _ _); refine RH.eff rfl rfl (EOpS.e (EOpS.slitV (by repeat (first | exact Elts.nil | apply Elts.one1 rfl | apply Elts.agg2 rfl)) (by simp) rfl rfl)) ?_; rintro _ _ ⟨b15, rfl, rfl⟩) | ((with_reducible show RH _ _ _ ⟨some 7, .alloc _, _, _, _, _⟩ _ _ _ _); refine RH.alloc rfl ?_; rintro _ _ ⟨b7, rfl, rfl⟩) | ((with_reducible show RH _ _ _ _ _ _ _ _); first | refine RH.val (hK := ?_) | refine RH.upd (hK := ?_)) | (with_reducible first | refine Run.seq ?_ | refine Run.region ?_ | refine Run.block ?_) | (with_reducible refine seqN (K := Run _ _ _ _) ?_))
  refine Run.sent (T := [hsl (tPair tInt (tS tInt)) (vsv (some ⟨b15, 0, none⟩, 0, 0)) [], hcells b7 [vint (X.length : Int), vsb b15 0 0], hcells b6 [vint 0, vlit (.slice none 0 0)], hcells b3 [vint n, vsl 2 (fun y : Int × (List Int) => [vint y.1, vsl 1 (fun x : Int => [vint x]) y.2]) os]])
    ((SEnt.pick (.cons (.tail .head) .nil)).trans ((SEnt.packNil (tPair tInt (tS tInt)) rfl).trans (SEnt.ch (.cons .head rfl (.cons .head rfl (.cons .head rfl (.cons .head rfl .nil))))))) ?_
  refine Run.loop (α := Nat × Sv) (fun z => [(1, vint (k : Int)), (2, vsl 1 (fun t : List Int => [vsl 1 (fun x : Int => [vint x]) t]) X), (3, vptr b3 0), (6, vptr b6 0), (7, vptr b7 0), (8, vint (z.1 : Int))])
    (fun z => [hsl (tPair tInt (tS tInt)) (vsv z.2) (algOps n k X (os.take z.1)), hcells b7 [vint (X.length : Int), vlit (vsv z.2)], hcells b6 [vint 0, vlit (.slice none 0 0)], hcells b3 [vint n, vsl 2 (fun y : Int × (List Int) => [vint y.1, vsl 1 (fun x : Int => [vint x]) y.2]) os]])
    (fun z => z.1 ≤ os.length) (fun z => os.length - z.1) (0, (some ⟨b15, 0, none⟩, 0, 0)) (Nat.zero_le _) (Ent.of slA .refl) ?_
  rintro ⟨j, s⟩ hj
  dsimp only at hj ⊢
  have hal : (algOps n k X (os.take j)).length ≤ 4 := by rw [algOps, List.length_map, List.length_take]; omega
  rcases Nat.lt_or_eq_of_le hj with hop | h9
  · have hf := List.getElem_mem hop
    have hf3 : 0 ≤ os[j].1 ∧ os[j].1 ≤ 3 := by
      have h := hops _ hf
      simp only [opB, Bool.and_eq_true, decide_eq_true_eq] at h
      exact h.1
    have hkf : ((os[j].1.toNat : Nat) : Int) = os[j].1 := by omega
    have hpow := l2Pow_c (X.length : Int) os[j].1.toNat (by omega) (by omega) (by omega)
    rw [hkf] at hpow
    have hpb := pw_512' (X.length : Int) (by omega) (by omega) os[j].1.toNat (by omega)
    have hp0 := pw_nonneg (X.length : Int) (by omega) os[j].1.toNat
    have hN : ((opN os[j] X : Nat) : Int) = pw (X.length : Int) os[j].1.toNat := by rw [opN]; omega
    repeat' (first | (with_reducible refine RL.done ?_) | (with_reducible refine RL.wanted ?_ ?_; exact rfl) | ((with_reducible show RH _ _ _ ⟨some 30, .buildSlice _ _ _, _, _, _, _⟩ _ _ _ _); refine RH.eff rfl rfl (EOpS.e (EOpS.slit (fun x : Int => [vint x]) _ (fun _ _ => rfl) (by repeat (first | exact Elts.nil | (apply Elts.cons; exact rfl; exact CellsOf.one))) rfl rfl)) ?_; rintro _ _ ⟨b30, rfl, rfl⟩) | ((with_reducible show RH _ _ _ ⟨some 9, .alloc _, _, _, _, _⟩ _ _ _ _); refine RH.alloc rfl ?_; rintro _ _ ⟨b9, rfl, rfl⟩) | ((with_reducible show RH _ _ _ _ _ _ _ _); first | refine RH.val (hK := ?_) | refine RH.upd (hK := ?_)) | (with_reducible first | refine Run.seq ?_ | refine Run.region ?_ | refine Run.block ?_ | refine Run.skip ?_ | refine Run.exit ?_ | refine Run.ret ?_) | (with_reducible show Run _ _ (.cond _ _ _) _ _ _; refine Run.condD rfl (fun h => ?_) (fun h => ?_)) | (with_reducible first | refine seqN (K := Run _ _ _ _) ?_ | refine seqE ?_ | refine blockE ?_))
    all_goals first
      | (exfalso; omega)
      | skip
    refine Run.sent (T := [hsl tInt (vsv (some ⟨b30, 0, none⟩, 0, 0)) [], hcells b9 [vint os[j].1, vsb b30 0 0], hsl (tPair tInt (tS tInt)) (vsv s) (algOps n k X (os.take j)), hcells b7 [vint (X.length : Int), vlit (vsv s)], hcells b6 [vint 0, vlit (.slice none 0 0)], hcells b3 [vint n, vsl 2 (fun y : Int × (List Int) => [vint y.1, vsl 1 (fun x : Int => [vint x]) y.2]) os]])
      ((SEnt.pick (.cons (.tail .head) .nil)).trans ((SEnt.packNil tInt rfl).trans (SEnt.ch (by repeat (first | exact Ch.nil | refine Ch.same (by repeat (first | exact Rem.head | apply Rem.tail)) ?_))))) ?_
    refine Run.loop (α := Nat × Sv) (fun z => [(1, vint (k : Int)), (2, vsl 1 (fun t : List Int => [vsl 1 (fun x : Int => [vint x]) t]) X), (3, vptr b3 0), (6, vptr b6 0), (7, vptr b7 0), (8, vint (j : Int)), (9, vptr b9 0), (10, vint (z.1 : Int))])
      (fun z => [hsl tInt (vsv z.2) (opTab n k X os[j] z.1), hcells b9 [vint os[j].1, vlit (vsv z.2)], hsl (tPair tInt (tS tInt)) (vsv s) (algOps n k X (os.take j)), hcells b7 [vint (X.length : Int), vlit (vsv s)], hcells b6 [vint 0, vlit (.slice none 0 0)], hcells b3 [vint n, vsl 2 (fun y : Int × (List Int) => [vint y.1, vsl 1 (fun x : Int => [vint x]) y.2]) os]])
      (fun z => z.1 ≤ opN os[j] X) (fun z => opN os[j] X - z.1) (0, (some ⟨b30, 0, none⟩, 0, 0)) (Nat.zero_le _) (Ent.of slA .refl) ?_
    rintro ⟨i, st⟩ hi
    dsimp only at hi ⊢
    have htl : (opTab n k X os[j] i).length = i := by simp [opTab]
    rcases Nat.lt_or_eq_of_le hi with h8 | h8
    · have hi2 : (i : Int) < pw (X.length : Int) os[j].1.toNat := by omega
      have hnum := low_at hi2
      have hll := lowd_length (i : Int) (X.length : Int) os[j].1.toNat
      have hnl : (lowd (i : Int) (X.length : Int) os[j].1.toNat).length ≤ 1048576 := by omega
      have hargs := l2Args_c (i : Int) (X.length : Int) os[j].1.toNat (by omega) (by omega) (by omega) (by omega)
      rw [hkf] at hargs
      have hch : ∀ u, u ∈ chosen X (lowd (i : Int) (X.length : Int) os[j].1.toNat) → u ∈ X := fun u hu => by
        obtain ⟨x, hx, rfl⟩ := List.mem_map.1 hu
        rw [List.getD_eq_getElem?_getD, List.getElem?_eq_getElem (hnum x hx).2]
        exact List.getElem_mem _
      have hap : ApOk n os[j].2 (chosen X (lowd (i : Int) (X.length : Int) os[j].1.toNat)) k := ap_ok ha (by omega) hf (by simp [chosen, hll]) (fun w hw => htup _ (hch w hw))
      have hXl : ∀ u ∈ X, u.length = (applyT n os[j].2 (chosen X (lowd (i : Int) (X.length : Int) os[j].1.toNat)) k).length := fun u hu => by rw [applyT_length]; exact (htup u hu).1
      have hd := opTab_succ n k X os[j] i
      rw [opV] at hd
      repeat' (first | (with_reducible first | refine RL.done ?_ | refine RL.app0 ?_ | refine RD.app1 ?_) | (with_reducible refine RL.wanted ?_ ?_; exact rfl) | ((with_reducible show Run _ _ (.region 9 _ true) _ _ _); refine Run.regionD (fun i => false) rfl ?_; change RD _ _ _ _ _ _ 19 (dm 19 0) _ _) | ((with_reducible show RD _ _ 9 _ _ _ _ _ _ _); first | ((with_reducible show RD _ _ _ _ _ _ _ (dm 19 0) _ _); refine RD.tk 0 (dm 19 516096) (dm 19 1) (hK := ?_)) | ((with_reducible show RD _ _ _ _ _ _ _ (dm 19 1) _ _); refine RD.tk 1 (dm 19 520192) (dm 19 3) (hK := ?_)) | ((with_reducible show RD _ _ _ _ _ _ _ (dm 19 3) _ _); refine RD.tk 2 (dm 19 520192) (dm 19 7) (hK := ?_)) | ((with_reducible show RD _ _ _ _ _ _ _ (dm 19 7) _ _); refine RD.tk 3 (dm 19 521216) (dm 19 15) (hK := ?_)) | ((with_reducible show RD _ _ _ _ _ _ _ (dm 19 15) _ _); refine RD.tk 4 (dm 19 521760) (dm 19 31) (hK := ?_)) | ((with_reducible show RD _ _ _ _ _ _ _ (dm 19 31) _ _); refine RD.tk 5 (dm 19 521728) (dm 19 63) (hK := ?_)) | ((with_reducible show RD _ _ _ _ _ _ _ (dm 19 63) _ _); refine RD.tk 6 (dm 19 521856) (dm 19 127) (hK := ?_)) | ((with_reducible show RD _ _ _ _ _ _ _ (dm 19 127) _ _); refine RD.tk 7 (dm 19 521728) (dm 19 255) (hK := ?_)) | ((with_reducible show RD _ _ _ _ _ _ _ (dm 19 255) _ _); refine RD.tk 8 (dm 19 521728) (dm 19 511) (hK := ?_)) | ((with_reducible show RD _ _ _ _ _ _ _ (dm 19 511) _ _); refine RD.tk 11 (dm 19 520192) (dm 19 2559) (hK := ?_)) | ((with_reducible show RD _ _ _ _ _ _ _ (dm 19 2559) _ _); refine RD.a1 9 ?_) | ((with_reducible show RD _ _ _ _ _ _ _ (dm 19 3071) _ _); refine RD.a1 10 ?_) | ((with_reducible show RD _ _ _ _ _ _ _ (dm 19 4095) _ _); refine RD.a1 12 ?_) | ((with_reducible show RD _ _ _ _ _ _ _ (dm 19 8191) _ _); refine RD.a1 13 ?_) | ((with_reducible show RD _ _ _ _ _ _ _ (dm 19 16383) _ _); refine RD.tk 14 (dm 19 491520) (dm 19 32767) (hK := ?_)) | ((with_reducible show RD _ _ _ _ _ _ _ (dm 19 32767) _ _); refine RD.tk 15 (dm 19 393216) (dm 19 65535) (hK := ?_)) | ((with_reducible show RD _ _ _ _ _ _ _ (dm 19 65535) _ _); refine RD.tk 16 (dm 19 262144) (dm 19 131071) (hK := ?_)) | ((with_reducible show RD _ _ _ _ _ _ _ (dm 19 131071) _ _); refine RD.tk 17 (dm 19 262144) (dm 19 262143) (hK := ?_)) | ((with_reducible show RD _ _ _ _ _ _ _ (dm 19 262143) _ _); refine RD.tk 18 (dm 19 0) (dm 19 524287) (hK := ?_)) | ((with_reducible show RD _ _ _ _ _ _ 0 _ _ _); refine RD.done (by kernel_rfl) ?_)) | ((with_reducible show RO _ _ 9 _ _ _ _ _ _ _ _); first | ((with_reducible show RO _ _ _ _ _ _ _ (dm 19 2559) 9 _ _); (refine RO.cP (dm 19 3071) Try.call120 ?_; refine ⟨_, hargs, ?_⟩; rintro _ _ ⟨s51, rfl, rfl⟩)) | ((with_reducible show RO _ _ _ _ _ _ _ (dm 19 3071) 10 _ _); (refine RO.lit 45 rfl ?_; intro vals hvals; refine RO.cL (dm 19 4095) Try.call88 ?_; apply Exists.intro; apply And.intro; (focus ((repeat (first | exact LVs.nil | (apply LVs.sl; (with_reducible repeat (first | exact Has.head | apply Has.tail)); exact inferInstance; exact rfl) | apply LVs.refl)); done)); refine ⟨_, l8Choose_c vals _ (by exact fun x hx => ⟨(hnum x hx).1, hvals ▸ (hnum x hx).2⟩) (by exact hnl), (by intro r H h; first | (obtain ⟨rfl, rfl⟩ := h; exact ⟨inferInstance, inferInstance⟩) | (obtain ⟨_, rfl, rfl⟩ := h; exact ⟨inferInstance, inferInstance⟩) | (obtain ⟨_, _, rfl, rfl⟩ := h; exact ⟨inferInstance, inferInstance⟩) | (obtain ⟨_, _, rfl, rfl, _⟩ := h; exact ⟨inferInstance, inferInstance⟩)), ?_⟩; rintro _ _ ⟨s52, rfl, rfl⟩; refine RD.app1 ?_; refine RD.unlit hnum ?_)) | ((with_reducible show RO _ _ _ _ _ _ _ (dm 19 4095) 12 _ _); (refine RO.cL (dm 19 8191) Try.call87 ?_; apply Exists.intro; apply And.intro; (focus ((repeat (first | exact LVs.nil | apply LVs.agg | apply LVs.refl)); done)); refine ⟨_, l8Apply_c n os j hop (by omega) _ k (by exact hap), (by intro r H h; first | (obtain ⟨rfl, rfl⟩ := h; exact ⟨inferInstance, inferInstance⟩) | (obtain ⟨_, rfl, rfl⟩ := h; exact ⟨inferInstance, inferInstance⟩) | (obtain ⟨_, _, rfl, rfl⟩ := h; exact ⟨inferInstance, inferInstance⟩) | (obtain ⟨_, _, rfl, rfl, _⟩ := h; exact ⟨inferInstance, inferInstance⟩)), ?_⟩; rintro _ _ ⟨s54, rfl, rfl⟩; refine RD.nm ?_)) | ((with_reducible show RO _ _ _ _ _ _ _ (dm 19 8191) 13 _ _); (refine RO.cL (dm 19 16383) Try.call86 ?_; apply Exists.intro; apply And.intro; (focus ((repeat (first | exact LVs.nil | (apply LVs.sl; (with_reducible repeat (exact Has.head)); exact inferInstance; exact rfl) | apply LVs.refl)); done)); refine ⟨_, l8Find_c X _ (by omega) (by rw [applyT_length]; omega) (by exact hXl) hsd, (by intro r H h; first | (obtain ⟨rfl, rfl⟩ := h; exact ⟨inferInstance, inferInstance⟩) | (obtain ⟨_, rfl, rfl⟩ := h; exact ⟨inferInstance, inferInstance⟩) | (obtain ⟨_, _, rfl, rfl⟩ := h; exact ⟨inferInstance, inferInstance⟩) | (obtain ⟨_, _, rfl, rfl, _⟩ := h; exact ⟨inferInstance, inferInstance⟩)), ?_⟩; rintro _ _ ⟨rfl, rfl⟩; refine RD.nm ?_))) | ((with_reducible show RH _ _ _ ⟨some 61, .buildSlice _ _ _, _, _, _, _⟩ _ _ _ _); refine RH.eff rfl rfl (EOpS.e (EOpS.slit (fun x : Int => [vint x]) _ (fun _ _ => rfl) (by repeat (first | exact Elts.nil | (apply Elts.cons; exact rfl; exact CellsOf.one))) rfl rfl)) ?_; rintro _ _ ⟨b61, rfl, rfl⟩) | ((with_reducible show RH _ _ _ ⟨some 67, .buildSlice _ _ _, _, _, _, _⟩ _ _ _ _); refine RH.eff rfl rfl (EOpS.e (EOpS.slitV (by repeat (first | exact Elts.nil | apply Elts.one1 rfl | apply Elts.agg2 rfl)) (by simp) rfl rfl)) ?_; rintro _ _ ⟨b67, rfl, rfl⟩) | ((with_reducible show RH _ _ _ ⟨_, .call ⟨.value (.func 80), _, _⟩, _, _, _, _⟩ _ _ _ _); refine RH.cP Try.call80 ?_; refine ⟨_, hpow, ?_⟩; rintro _ _ ⟨rfl, rfl⟩) | ((with_reducible show RH _ _ _ ⟨_, .call ⟨.builtin .append, _, _⟩, _, _, _, _⟩ _ _ _ _); (first | refine RH.appI rfl rfl rfl (by repeat (first | exact Pick.nil | (apply Pick.cons; (with_reducible repeat (first | exact Rem.head | apply Rem.tail))))) (by first | omega | (simp; omega)) (by first | omega | (simp; omega)) ?_ | refine RH.appPI rfl rfl rfl (by repeat (first | exact Pick.nil | (apply Pick.cons; (with_reducible repeat (first | exact Rem.head | apply Rem.tail))))) (by first | omega | (simp; omega)) (by first | omega | (simp; omega)) ?_); rintro _ _ ⟨s, rfl, rfl⟩) | ((with_reducible show RH _ _ _ _ _ _ _ _); first | refine RH.val (hK := ?_) | refine RH.upd (hK := ?_)) | (with_reducible first | refine Run.seq ?_ | refine Run.region ?_ | refine Run.block ?_ | refine Run.skip ?_ | refine Run.exit ?_) | (with_reducible show Run _ _ (.cond _ _ _) _ _ _; refine Run.condD rfl (fun h => ?_) (fun h => ?_)) | (with_reducible first | refine seqN (K := Run _ _ _ _) ?_ | refine seqE ?_ | refine blockN ?_ | refine blockE ?_))
      all_goals first
        | (exfalso; omega)
        | (with_reducible refine seqN ?_
           exact ⟨(i + 1, _), by dsimp only; omega, by dsimp only; omega, Ent.of (by dsimp only; exact slA) (by dsimp only; rw [hd]; exact chA)⟩)
    · subst h8
      have hd := algOps_succ (n := n) (k := k) (X := X) hop
      repeat' (first | (with_reducible first | refine RL.done ?_ | refine RL.app0 ?_) | (with_reducible refine RL.wanted ?_ ?_; exact rfl) | ((with_reducible show RH _ _ _ ⟨some 67, .buildSlice _ _ _, _, _, _, _⟩ _ _ _ _); refine RH.eff rfl rfl (EOpS.e (EOpS.slitV (by repeat (first | exact Elts.nil | apply Elts.one1 rfl | apply Elts.agg2 rfl)) (by simp) rfl rfl)) ?_; rintro _ _ ⟨b67, rfl, rfl⟩) | ((with_reducible show RH _ _ _ ⟨_, .call ⟨.value (.func 80), _, _⟩, _, _, _, _⟩ _ _ _ _); refine RH.cP Try.call80 ?_; refine ⟨_, hpow, ?_⟩; rintro _ _ ⟨rfl, rfl⟩) | ((with_reducible show RH _ _ _ ⟨_, .call ⟨.builtin .append, _, _⟩, _, _, _, _⟩ _ _ _ _); (refine RH.appPI rfl rfl rfl (by repeat (first | exact Pick.nil | (apply Pick.cons; (with_reducible repeat (first | exact Rem.head | apply Rem.tail))))) (by first | omega | (simp; omega)) (by first | omega | (simp; omega)) ?_); rintro _ _ ⟨s, rfl, rfl⟩) | ((with_reducible show RH _ _ _ _ _ _ _ _); first | refine RH.val (hK := ?_) | refine RH.upd (hK := ?_)) | (with_reducible first | refine Run.seq ?_ | refine Run.region ?_ | refine Run.block ?_ | refine Run.skip ?_ | refine Run.exit ?_) | (with_reducible show Run _ _ (.cond _ _ _) _ _ _; refine Run.condD rfl (fun h => ?_) (fun h => ?_)) | (with_reducible first | refine seqN (K := Run _ _ _ _) ?_ | refine seqE ?_ | refine blockN ?_ | refine blockE ?_))
      all_goals first
        | (exfalso; omega)
        | (with_reducible refine seqN ?_
           exact ⟨(j + 1, _), by dsimp only; omega, by dsimp only; omega, Ent.of (by dsimp only; exact slA) (by dsimp only; rw [hd]; exact chA)⟩)
  · subst h9
    repeat' (first | (with_reducible refine RL.done ?_) | (with_reducible refine RL.wanted ?_ ?_; exact rfl) | ((with_reducible show RH _ _ _ ⟨some 30, .buildSlice _ _ _, _, _, _, _⟩ _ _ _ _); refine RH.eff rfl rfl (EOpS.e (EOpS.slit (fun x : Int => [vint x]) _ (fun _ _ => rfl) (by repeat (first | exact Elts.nil | (apply Elts.cons; exact rfl; exact CellsOf.one))) rfl rfl)) ?_; rintro _ _ ⟨b30, rfl, rfl⟩) | ((with_reducible show RH _ _ _ ⟨some 9, .alloc _, _, _, _, _⟩ _ _ _ _); refine RH.alloc rfl ?_; rintro _ _ ⟨b9, rfl, rfl⟩) | ((with_reducible show RH _ _ _ _ _ _ _ _); first | refine RH.val (hK := ?_) | refine RH.upd (hK := ?_)) | (with_reducible first | refine Run.seq ?_ | refine Run.region ?_ | refine Run.block ?_ | refine Run.skip ?_ | refine Run.exit ?_ | refine Run.ret ?_) | (with_reducible show Run _ _ (.cond _ _ _) _ _ _; refine Run.condD rfl (fun h => ?_) (fun h => ?_)) | (with_reducible first | refine seqN (K := Run _ _ _ _) ?_ | refine seqE ?_ | refine blockE ?_))
    all_goals first
      | (exfalso; omega)
      | (refine ⟨eA, _, [hsl (tPair tInt (tS tInt)) (vsv s) (algOps n k X os)], resA, ?_, ?_⟩
         · exact SEnt.ch (.cons .head (by rw [List.take_length]) .nil)
         · exact ⟨s, rfl, rfl⟩)
end Go.Proofs.Ytejeeokjjbiadaa

namespace Go.Proofs.Ytejeeokjjbiadaa
open Go Go.Proofs
set_option linter.unusedVariables false
theorem opTab_length (n : Int) (k : Nat) (X : List (List Int)) (f : Int × List Int) (m : Nat) : (opTab n k X f m).length = m := by simp [opTab]
theorem opTab_set (n : Int) (k : Nat) (X : List (List Int)) (f : Int × List Int) (m size : Nat) (hm : m < size) : (opTab n k X f m ++ List.replicate (size - m) (0 : Int)).set m (placeOf X (opV n k f X m) : Int) = opTab n k X f (m + 1) ++ List.replicate (size - (m + 1)) 0 := by
  have e : size - m = size - (m + 1) + 1 := by omega
  rw [List.set_append_right _ _ (by rw [opTab_length]; exact Nat.le_refl _), opTab_length, Nat.sub_self, e, List.replicate_succ, List.set_cons_zero, opTab_succ, List.append_assoc]; rfl
def tabsOf (n : Int) (k : Nat) (X : List (List Int)) (os : List (Int × List Int)) : List (List Int) := os.map fun f => opTab n k X f (opN f X)
theorem tabsOf_succ {n : Int} {k : Nat} {X : List (List Int)} {os : List (Int × List Int)} {j : Nat} (h : j < os.length) : tabsOf n k X (os.take (j + 1)) = tabsOf n k X (os.take j) ++ [opTab n k X os[j] (opN os[j] X)] := by
  rw [tabsOf, List.take_add_one, List.getElem?_eq_getElem h, List.map_append]; rfl
theorem chosen_pt {xs : List (List Int)} {ns : List Int} {A : List (List Int)} {q : Nat} (hq : q < ns.length) (hA : A.length = ns.length) (hx : (ns[q]).toNat < xs.length) :
    ((chosen xs ns).take q ++ A.drop q).set q (xs[(ns[q]).toNat]) = (chosen xs ns).take (q + 1) ++ A.drop (q + 1) := by
  have hcl : (chosen xs ns).length = ns.length := by simp [chosen]
  have hl : ((chosen xs ns).take q).length = q := by simp [hcl]; omega
  have e : (chosen xs ns)[q]'(by omega) = xs[(ns[q]).toNat] := by simp [chosen, hx]
  rw [List.set_append_right _ _ (by omega), hl, Nat.sub_self, List.drop_eq_getElem_cons (by omega), List.set_cons_zero, List.take_add_one, List.getElem?_eq_getElem (by omega : q < (chosen xs ns).length), e, List.append_assoc]
  rfl
set_option maxRecDepth 10000 in
set_option maxHeartbeats 4000000 in
theorem valueTables_c (n : Int) (os : List (Int × List Int)) (m : Nat) (X : List (List Int)) (ha : algB n os = true) (hm64 : m ≤ 64) (htup : ∀ t ∈ X, TupOk n m t) (hcu : ClosedU n os m X) (hX : 1 ≤ X.length ∧ X.length ≤ 8) (bs bm : Nat) (kv : KV) (hkv : KvOk X kv) :
    Spec Try.prog 83 [vptr bs 0] [hcells bs [vint n, vsl 2 (fun y : Int × (List Int) => [vint y.1, vsl 1 (fun x : Int => [vint x]) y.2]) os, vint (m : Int), vsl 1 (fun t : List Int => [vsl 1 (fun x : Int => [vint x]) t]) X, vmap bm], hmapI bm kv]
      (fun r S' => ∃ s : Sv, r = vlit (vsv s) ∧ S' = [hsl (tS tInt) (vsv s) (tabsOf n m X os)]) := by
  obtain ⟨hn1, hn8, ho4, hops⟩ := algB_at ha
  refine Spec.of_run2 (n := 92) Try.func83 rfl Try.results83 Try.ntmps83 rfl ?_
  repeat' (first | (with_reducible refine RL.done ?_) | (with_reducible refine RL.wanted ?_ ?_; exact rfl) | ((with_reducible show RH _ _ _ ⟨some 11, .buildSlice _ _ _, _, _, _, _⟩ _ _ _ _); (refine RH.eff rfl rfl (EOpS.e (EOpS.slitV (by ((repeat (first | exact Elts.nil | apply Elts.one1 rfl | apply Elts.agg2 rfl)); done)) (by simp) rfl rfl)) ?_; rintro _ _ ⟨b11, rfl, rfl⟩)) | ((with_reducible show RH _ _ _ _ _ _ _ _); refine RH.val (hK := ?_)) | (with_reducible first | refine Run.seq ?_ | refine Run.region ?_ | refine Run.block ?_) | (with_reducible refine seqN (K := Run _ _ _ _) ?_))
  refine Run.sent (T := [hsl (tS tInt) (vsv (some ⟨b11, 0, none⟩, 0, 0)) [], hcells bs [vint n, vsl 2 (fun y : Int × (List Int) => [vint y.1, vsl 1 (fun x : Int => [vint x]) y.2]) os, vint (m : Int), vsl 1 (fun t : List Int => [vsl 1 (fun x : Int => [vint x]) t]) X, vmap bm], hmapI bm kv]) (SEnt.packNil (tS tInt) rfl) ?_
  refine Run.loop (α := Nat × Sv) (fun z => [(0, vptr bs 0), (3, vlit (vsv z.2)), (16, vsl 2 (fun y : Int × (List Int) => [vint y.1, vsl 1 (fun x : Int => [vint x]) y.2]) os), (17, vint (os.length : Int)), (18, vint (z.1 : Int))])
    (fun z => [hsl (tS tInt) (vsv z.2) (tabsOf n m X (os.take z.1)), hcells bs [vint n, vsl 2 (fun y : Int × (List Int) => [vint y.1, vsl 1 (fun x : Int => [vint x]) y.2]) os, vint (m : Int), vsl 1 (fun t : List Int => [vsl 1 (fun x : Int => [vint x]) t]) X, vmap bm], hmapI bm kv])
    (fun z => z.1 ≤ os.length) (fun z => os.length - z.1) (0, (some ⟨b11, 0, none⟩, 0, 0)) (Nat.zero_le _) (Ent.of slA .refl) ?_
  rintro ⟨j, s⟩ hj
  dsimp only at hj ⊢
  have hal : (tabsOf n m X (os.take j)).length ≤ 4 := by rw [tabsOf, List.length_map, List.length_take]; omega
  rcases Nat.lt_or_eq_of_le hj with hop | h9
  · have hf := List.getElem_mem hop
    have hf3 : 0 ≤ os[j].1 ∧ os[j].1 ≤ 3 := by
      have h := hops _ hf
      simp only [opB, Bool.and_eq_true, decide_eq_true_eq] at h
      exact h.1
    have hkf : ((os[j].1.toNat : Nat) : Int) = os[j].1 := by omega
    have hpow := power_c (X.length : Int) os[j].1.toNat (by omega) (by omega) (by omega)
    rw [hkf] at hpow
    have hpb := pw_512' (X.length : Int) (by omega) (by omega) os[j].1.toNat (by omega)
    have hp0 := pw_nonneg (X.length : Int) (by omega) os[j].1.toNat
    have hN : ((opN os[j] X : Nat) : Int) = pw (X.length : Int) os[j].1.toNat := by rw [opN]; omega
    rw [← hN] at hpow
    repeat' (first | (with_reducible first | refine RL.done ?_ | refine RD.app0 ?_) | (with_reducible refine RL.wanted ?_ ?_; exact rfl) | ((with_reducible show RH _ _ _ ⟨some 33, .makeSlice _ _ _, _, _, _, _⟩ _ _ _ _); refine RH.makeZ (α := List Int) rfl (fun t : List Int => [vsl 1 (fun x : Int => [vint x]) t]) [] row_nil rfl rfl (by omega) (by omega) ?_; rintro _ _ ⟨b33, rfl, rfl⟩) | ((with_reducible show Run _ _ (.region 5 _ true) _ _ _); refine Run.regionD (fun i => false) rfl ?_; change RD _ _ _ _ _ _ 10 (dm 10 0) _ _) | ((with_reducible show RD _ _ 5 _ _ _ _ _ _ _); first | ((with_reducible show RD _ _ _ _ _ _ _ (dm 10 0) _ _); refine RD.tk 0 (dm 10 926) (dm 10 1) (hK := ?_)) | ((with_reducible show RD _ _ _ _ _ _ _ (dm 10 1) _ _); refine RD.tk 1 (dm 10 924) (dm 10 3) (hK := ?_)) | ((with_reducible show RD _ _ _ _ _ _ _ (dm 10 3) _ _); refine RD.tk 2 (dm 10 920) (dm 10 7) (hK := ?_)) | ((with_reducible show RD _ _ _ _ _ _ _ (dm 10 7) _ _); refine RD.tk 3 (dm 10 912) (dm 10 15) (hK := ?_)) | ((with_reducible show RD _ _ _ _ _ _ _ (dm 10 15) _ _); refine RD.tk 4 (dm 10 896) (dm 10 31) (hK := ?_)) | ((with_reducible show RD _ _ _ _ _ _ _ (dm 10 31) _ _); refine RD.tk 5 (dm 10 960) (dm 10 63) (hK := ?_)) | ((with_reducible show RD _ _ _ _ _ _ _ (dm 10 63) _ _); refine RD.tk 6 (dm 10 896) (dm 10 127) (hK := ?_)) | ((with_reducible show RD _ _ _ _ _ _ _ (dm 10 127) _ _); refine RD.a1 7 ?_) | ((with_reducible show RD _ _ _ _ _ _ _ (dm 10 255) _ _); refine RD.a1 8 ?_) | ((with_reducible show RD _ _ _ _ _ _ _ (dm 10 511) _ _); refine RD.tk 9 (dm 10 0) (dm 10 1023) (hK := ?_)) | ((with_reducible show RD _ _ _ _ _ _ 0 _ _ _); refine RD.done (by kernel_rfl) ?_)) | ((with_reducible show RO _ _ 5 _ _ _ _ _ _ _ _); first | ((with_reducible show RO _ _ _ _ _ _ _ (dm 10 127) 7 _ _); (refine RO.cP (dm 10 255) Try.call144 ?_; refine ⟨_, hpow, ?_⟩; rintro _ _ ⟨rfl, rfl⟩)) | ((with_reducible show RO _ _ _ _ _ _ _ (dm 10 255) 8 _ _); (refine RO.eS (dm 10 511) (hv := by show EOpS _ _ _ _ ⟨_, .makeSlice _ _ _, _, _, _, _⟩ _; exact EOpS.make (α := Int) (fun x => [vint x]) 0 (fun c => .cons rfl .nil) rfl rfl (by omega) (by omega) (by omega)) (h := ?_); rintro _ _ ⟨b30, rfl, rfl⟩))) | ((with_reducible show RH _ _ _ ⟨some 5, .alloc _, _, _, _, _⟩ _ _ _ _); refine RH.alloc rfl ?_; rintro _ _ ⟨b5, rfl, rfl⟩) | ((with_reducible show RH _ _ _ _ _ _ _ _); first | refine RH.val (hK := ?_) | refine RH.upd (hK := ?_)) | (with_reducible first | refine Run.seq ?_ | refine Run.region ?_ | refine Run.block ?_ | refine Run.skip ?_ | refine Run.exit ?_ | refine Run.ret ?_) | (with_reducible show Run _ _ (.cond _ _ _) _ _ _; refine Run.condD rfl (fun h => ?_) (fun h => ?_)) | (with_reducible first | refine seqN (K := Run _ _ _ _) ?_ | refine seqE ?_ | refine blockE ?_))
    all_goals first
      | (exfalso; omega)
      | skip
    refine Run.loop (α := Nat × List (List Int)) (fun z => [(0, vptr bs 0), (3, vlit (vsv s)), (16, vsl 2 (fun y : Int × (List Int) => [vint y.1, vsl 1 (fun x : Int => [vint x]) y.2]) os), (17, vint (os.length : Int)), (18, vint (j : Int)), (5, vptr b5 0), (6, vsb b30 (opN os[j] X) (opN os[j] X)), (7, vsb b33 os[j].1.toNat os[j].1.toNat), (34, vsb b30 (opN os[j] X) (opN os[j] X)), (35, vint (opN os[j] X : Int)), (36, vint (z.1 : Int))])
      (fun z => [harr b33 1 (fun t : List Int => [vsl 1 (fun x : Int => [vint x]) t]) z.2 (os[j].1.toNat * 1), harr b30 1 (fun x : Int => [vint x]) (opTab n m X os[j] z.1 ++ List.replicate (opN os[j] X - z.1) (0 : Int)) (opN os[j] X * 1), hcells b5 [vint os[j].1, vsl 1 (fun x : Int => [vint x]) os[j].2], hsl (tS tInt) (vsv s) (tabsOf n m X (os.take j)), hcells bs [vint n, vsl 2 (fun y : Int × (List Int) => [vint y.1, vsl 1 (fun x : Int => [vint x]) y.2]) os, vint (m : Int), vsl 1 (fun t : List Int => [vsl 1 (fun x : Int => [vint x]) t]) X, vmap bm], hmapI bm kv])
      (fun z => z.1 ≤ opN os[j] X ∧ z.2.length = os[j].1.toNat) (fun z => opN os[j] X - z.1) (0, List.replicate os[j].1.toNat []) ⟨Nat.zero_le _, by simp⟩ (Ent.of slA (.cons .head rfl (.cons .head (by simp [opTab]) chA))) ?_
    rintro ⟨i, A⟩ ⟨hi, hA⟩
    dsimp only at hi hA ⊢
    have htl : (opTab n m X os[j] i ++ List.replicate (opN os[j] X - i) (0 : Int)).length = opN os[j] X := by simp [opTab_length]; omega
    rcases Nat.lt_or_eq_of_le hi with h8 | h8
    · have hi2 : (i : Int) < pw (X.length : Int) os[j].1.toNat := by omega
      have hnum := low_at hi2
      have hll := lowd_length (i : Int) (X.length : Int) os[j].1.toNat
      have hargs := argsAt_c (i : Int) (X.length : Int) os[j].1.toNat (by omega) (by omega) (by omega) (by omega)
      rw [hkf] at hargs
      have hch : ∀ u, u ∈ chosen X (lowd (i : Int) (X.length : Int) os[j].1.toNat) → u ∈ X := fun u hu => by
        obtain ⟨x, hx, rfl⟩ := List.mem_map.1 hu
        rw [List.getD_eq_getElem?_getD, List.getElem?_eq_getElem (hnum x hx).2]
        exact List.getElem_mem _
      have hap : ApOk n os[j].2 (chosen X (lowd (i : Int) (X.length : Int) os[j].1.toNat)) m := ap_ok ha (by omega) hf (by simp [chosen, hll]) (fun w hw => htup _ (hch w hw))
      have hin : applyT n os[j].2 (chosen X (lowd (i : Int) (X.length : Int) os[j].1.toNat)) m ∈ X := hcu _ hf _ (by simp [chosen, hll]) hch
      have hset := opTab_set n m X os[j] i (opN os[j] X) h8
      rw [opV, ← hkv _ hin] at hset
      repeat' (first | (with_reducible refine RL.done ?_) | (with_reducible refine RL.wanted ?_ ?_; exact rfl) | ((with_reducible show Run _ _ (.region 10 _ true) _ _ _); refine Run.regionD (fun i => false) rfl ?_; change RD _ _ _ _ _ _ 11 (dm 11 0) _ _) | ((with_reducible show RD _ _ 10 _ _ _ _ _ _ _); first | ((with_reducible show RD _ _ _ _ _ _ _ (dm 11 0) _ _); refine RD.tk 0 (dm 11 768) (dm 11 1) (hK := ?_)) | ((with_reducible show RD _ _ _ _ _ _ _ (dm 11 1) _ _); refine RD.tk 1 (dm 11 772) (dm 11 3) (hK := ?_)) | ((with_reducible show RD _ _ _ _ _ _ _ (dm 11 3) _ _); refine RD.tk 2 (dm 11 768) (dm 11 7) (hK := ?_)) | ((with_reducible show RD _ _ _ _ _ _ _ (dm 11 7) _ _); refine RD.tk 3 (dm 11 1008) (dm 11 15) (hK := ?_)) | ((with_reducible show RD _ _ _ _ _ _ _ (dm 11 15) _ _); refine RD.tk 4 (dm 11 992) (dm 11 31) (hK := ?_)) | ((with_reducible show RD _ _ _ _ _ _ _ (dm 11 31) _ _); refine RD.tk 5 (dm 11 960) (dm 11 63) (hK := ?_)) | ((with_reducible show RD _ _ _ _ _ _ _ (dm 11 63) _ _); refine RD.tk 6 (dm 11 896) (dm 11 127) (hK := ?_)) | ((with_reducible show RD _ _ _ _ _ _ _ (dm 11 127) _ _); refine RD.tk 7 (dm 11 768) (dm 11 255) (hK := ?_)) | ((with_reducible show RD _ _ _ _ _ _ _ (dm 11 255) _ _); refine RD.tk 10 (dm 11 0) (dm 11 1279) (hK := ?_)) | ((with_reducible show RD _ _ _ _ _ _ _ (dm 11 1279) _ _); refine RD.a1 8 ?_) | ((with_reducible show RD _ _ _ _ _ _ _ (dm 11 1535) _ _); refine RD.tk 9 (dm 11 0) (dm 11 2047) (hK := ?_)) | ((with_reducible show RD _ _ _ _ _ _ 0 _ _ _); refine RD.done (by kernel_rfl) ?_)) | ((with_reducible show RO _ _ 10 _ _ _ _ _ _ _ _); ((with_reducible show RO _ _ _ _ _ _ _ (dm 11 1279) 8 _ _); (refine RO.cP (dm 11 1535) Try.call145 ?_; refine ⟨_, hargs, ?_⟩; rintro _ _ ⟨s47, rfl, rfl⟩; refine RD.app1 ?_; refine RD.frzI ?_))) | ((with_reducible show RH _ _ _ ⟨some 88, .buildSlice _ _ _, _, _, _, _⟩ _ _ _ _); (refine RH.eff rfl rfl (EOpS.e (EOpS.slitV (by ((repeat (first | exact Elts.nil | apply Elts.one1 rfl | apply Elts.agg2 rfl)); done)) (by simp) rfl rfl)) ?_; rintro _ _ ⟨b88, rfl, rfl⟩)) | ((with_reducible show RH _ _ _ _ _ _ _ _); refine RH.val (hK := ?_)) | (with_reducible first | refine Run.seq ?_ | refine Run.region ?_ | refine Run.block ?_ | refine Run.skip ?_ | refine Run.exit ?_) | (with_reducible show Run _ _ (.cond _ _ _) _ _ _; refine Run.condD rfl (fun h => ?_) (fun h => ?_)) | (with_reducible first | refine seqN (K := Run _ _ _ _) ?_ | refine seqE ?_ | refine blockE ?_))
      all_goals first
        | (exfalso; omega)
        | skip
      refine Run.loop (α := Nat) (fun q => [(0, vptr bs 0), (3, vlit (vsv s)), (16, vsl 2 (fun y : Int × (List Int) => [vint y.1, vsl 1 (fun x : Int => [vint x]) y.2]) os), (17, vint (os.length : Int)), (18, vint (j : Int)), (5, vptr b5 0), (6, vsb b30 (opN os[j] X) (opN os[j] X)), (7, vsb b33 os[j].1.toNat os[j].1.toNat), (34, vsb b30 (opN os[j] X) (opN os[j] X)), (35, vint (opN os[j] X : Int)), (36, vint (i : Int)), (8, vint (i : Int)), (47, vsl 1 (fun x : Int => [vint x]) ((lowd (i : Int) (X.length : Int) os[j].1.toNat))), (48, vint ((lowd (i : Int) (X.length : Int) os[j].1.toNat).length : Int)), (49, vint (q : Int))])
        (fun q => [harr b33 1 (fun t : List Int => [vsl 1 (fun x : Int => [vint x]) t]) ((chosen X (lowd (i : Int) (X.length : Int) os[j].1.toNat)).take q ++ A.drop q) (os[j].1.toNat * 1), harr b30 1 (fun x : Int => [vint x]) (opTab n m X os[j] i ++ List.replicate (opN os[j] X - i) (0 : Int)) (opN os[j] X * 1), hcells b5 [vint os[j].1, vsl 1 (fun x : Int => [vint x]) os[j].2], hsl (tS tInt) (vsv s) (tabsOf n m X (os.take j)), hcells bs [vint n, vsl 2 (fun y : Int × (List Int) => [vint y.1, vsl 1 (fun x : Int => [vint x]) y.2]) os, vint (m : Int), vsl 1 (fun t : List Int => [vsl 1 (fun x : Int => [vint x]) t]) X, vmap bm], hmapI bm kv])
        (fun q => q ≤ (lowd (i : Int) (X.length : Int) os[j].1.toNat).length) (fun q => (lowd (i : Int) (X.length : Int) os[j].1.toNat).length - q) 0 (Nat.zero_le _) (Ent.of slA (.cons .head (by simp) chA)) ?_
      intro q hq
      have hcl2 : (chosen X (lowd (i : Int) (X.length : Int) os[j].1.toNat)).length = os[j].1.toNat := by simp [chosen, hll]
      have hAl : ((chosen X (lowd (i : Int) (X.length : Int) os[j].1.toNat)).take q ++ A.drop q).length = os[j].1.toNat := by simp [hcl2]; omega
      rcases Nat.lt_or_eq_of_le hq with hq9 | hq9
      · have hxq := hnum _ (List.getElem_mem hq9)
        have hput := chosen_pt (xs := X) (A := A) hq9 (by omega) hxq.2
        repeat' (first | (with_reducible refine RL.done ?_) | (with_reducible refine RL.wanted ?_ ?_; exact rfl) | ((with_reducible show RH _ _ _ _ _ _ _ _); first | refine RH.val (hK := ?_) | refine RH.upd (hK := ?_)) | (with_reducible first | refine Run.seq ?_ | refine Run.region ?_ | refine Run.block ?_ | refine Run.skip ?_ | refine Run.exit ?_) | (with_reducible show Run _ _ (.cond _ _ _) _ _ _; refine Run.condD rfl (fun h => ?_) (fun h => ?_)) | (with_reducible first | refine seqN (K := Run _ _ _ _) ?_ | refine seqE ?_ | refine blockN ?_ | refine blockE ?_))
        all_goals first
          | (exfalso; omega)
          | (with_reducible refine seqN ?_
             exact ⟨q + 1, by omega, by omega, Ent.of slA (.cons .head (congrArg (fun ys => harr b33 1 (fun t : List Int => [vsl 1 (fun x : Int => [vint x]) t]) ys (os[j].1.toNat * 1)) hput) chA)⟩)
      · subst hq9
        have hAe : (chosen X (lowd (i : Int) (X.length : Int) os[j].1.toNat)).take (lowd (i : Int) (X.length : Int) os[j].1.toNat).length ++ A.drop (lowd (i : Int) (X.length : Int) os[j].1.toNat).length = chosen X (lowd (i : Int) (X.length : Int) os[j].1.toNat) := by
          rw [List.drop_of_length_le (by omega), List.append_nil, List.take_of_length_le (by omega)]
        rw [hAe] at hAl ⊢
        repeat' (first | (with_reducible first | refine RL.done ?_ | refine RD.app0 ?_) | (with_reducible refine RL.wanted ?_ ?_; exact rfl) | ((with_reducible show Run _ _ (.region 15 _ true) _ _ _); refine Run.regionD (fun i => i == 20) rfl ?_; change RD _ _ _ _ _ _ 21 (dm 21 0) _ _) | ((with_reducible show RD _ _ 15 _ _ _ _ _ _ _); first | ((with_reducible show RD _ _ _ _ _ _ _ (dm 21 0) _ _); refine RD.tk 0 (dm 21 1572864) (dm 21 1) (hK := ?_)) | ((with_reducible show RD _ _ _ _ _ _ _ (dm 21 1) _ _); refine RD.tk 1 (dm 21 1572864) (dm 21 3) (hK := ?_)) | ((with_reducible show RD _ _ _ _ _ _ _ (dm 21 3) _ _); refine RD.tk 2 (dm 21 1835064) (dm 21 7) (hK := ?_)) | ((with_reducible show RD _ _ _ _ _ _ _ (dm 21 7) _ _); refine RD.tk 3 (dm 21 1835056) (dm 21 15) (hK := ?_)) | ((with_reducible show RD _ _ _ _ _ _ _ (dm 21 15) _ _); refine RD.tk 4 (dm 21 1835040) (dm 21 31) (hK := ?_)) | ((with_reducible show RD _ _ _ _ _ _ _ (dm 21 31) _ _); refine RD.tk 5 (dm 21 1835008) (dm 21 63) (hK := ?_)) | ((with_reducible show RD _ _ _ _ _ _ _ (dm 21 63) _ _); refine RD.tk 6 (dm 21 2032512) (dm 21 127) (hK := ?_)) | ((with_reducible show RD _ _ _ _ _ _ _ (dm 21 127) _ _); refine RD.tk 7 (dm 21 2032384) (dm 21 255) (hK := ?_)) | ((with_reducible show RD _ _ _ _ _ _ _ (dm 21 255) _ _); refine RD.tk 8 (dm 21 2032128) (dm 21 511) (hK := ?_)) | ((with_reducible show RD _ _ _ _ _ _ _ (dm 21 511) _ _); refine RD.tk 9 (dm 21 2031616) (dm 21 1023) (hK := ?_)) | ((with_reducible show RD _ _ _ _ _ _ _ (dm 21 1023) _ _); refine RD.tk 10 (dm 21 2031616) (dm 21 2047) (hK := ?_)) | ((with_reducible show RD _ _ _ _ _ _ _ (dm 21 2047) _ _); refine RD.tk 11 (dm 21 2060288) (dm 21 4095) (hK := ?_)) | ((with_reducible show RD _ _ _ _ _ _ _ (dm 21 4095) _ _); refine RD.tk 12 (dm 21 2056192) (dm 21 8191) (hK := ?_)) | ((with_reducible show RD _ _ _ _ _ _ _ (dm 21 8191) _ _); refine RD.tk 13 (dm 21 2048000) (dm 21 16383) (hK := ?_)) | ((with_reducible show RD _ _ _ _ _ _ _ (dm 21 16383) _ _); refine RD.tk 14 (dm 21 2031616) (dm 21 32767) (hK := ?_)) | ((with_reducible show RD _ _ _ _ _ _ _ (dm 21 32767) _ _); refine RD.tk 15 (dm 21 2031616) (dm 21 65535) (hK := ?_)) | ((with_reducible show RD _ _ _ _ _ _ _ (dm 21 65535) _ _); refine RD.a1 16 ?_) | ((with_reducible show RD _ _ _ _ _ _ _ (dm 21 131071) _ _); refine RD.a1 17 ?_) | ((with_reducible show RD _ _ _ _ _ _ _ (dm 21 262143) _ _); refine RD.tk 18 (dm 21 1572864) (dm 21 524287) (hK := ?_)) | ((with_reducible show RD _ _ _ _ _ _ _ (dm 21 524287) _ _); refine RD.tk 19 (dm 21 1048576) (dm 21 1048575) (hK := ?_)) | ((with_reducible show RD _ _ _ _ _ _ _ (dm 21 1048575) _ _); refine RD.a1 20 ?_) | ((with_reducible show RD _ _ _ _ _ _ 0 _ _ _); refine RD.done (by kernel_rfl) ?_)) | ((with_reducible show RO _ _ 15 _ _ _ _ _ _ _ _); first | ((with_reducible show RO _ _ _ _ _ _ _ (dm 21 65535) 16 _ _); (refine RO.cL (dm 21 131071) Try.call156 ?_; apply Exists.intro; apply And.intro; (focus ((repeat (first | exact LVs.nil | (apply LVs.arr; (with_reducible repeat (exact Has.head)); (omega); exact rfl) | apply LVs.agg | apply LVs.refl)); done)); refine ⟨_, applyTuples_c n os[j].1 os os[j].2 (chosen X (lowd (i : Int) (X.length : Int) os[j].1.toNat)) m hap, (by intro r H h; first | (obtain ⟨rfl, rfl⟩ := h; exact ⟨inferInstance, inferInstance⟩) | (obtain ⟨_, rfl, rfl⟩ := h; exact ⟨inferInstance, inferInstance⟩) | (obtain ⟨_, _, rfl, rfl⟩ := h; exact ⟨inferInstance, inferInstance⟩) | (obtain ⟨_, _, rfl, rfl, _⟩ := h; exact ⟨inferInstance, inferInstance⟩)), ?_⟩; rintro _ _ ⟨s81, rfl, rfl⟩; refine RD.app1 ?_; refine RD.frzI ?_)) | ((with_reducible show RO _ _ _ _ _ _ _ (dm 21 131071) 17 _ _); (refine RO.cP (dm 21 262143) Try.call147 ?_; refine ⟨_, keyOf_c (applyT n os[j].2 (chosen X (lowd (i : Int) (X.length : Int) os[j].1.toNat)) m) (by rw [applyT_length]; omega), ?_⟩; rintro _ _ ⟨rfl, rfl⟩)) | ((with_reducible show RO _ _ _ _ _ _ _ (dm 21 1048575) 20 _ _); (refine RO.h (dm 21 2097151) ?_; show RH _ _ _ ⟨_, _, _, _, _, _⟩ _ _ _ _))) | ((with_reducible show RH _ _ _ _ _ _ _ _); first | refine RH.val (hK := ?_) | refine RH.upd (hK := ?_)) | (with_reducible first | refine Run.seq ?_ | refine Run.region ?_ | refine Run.block ?_ | refine Run.skip ?_ | refine Run.exit ?_) | (with_reducible show Run _ _ (.cond _ _ _) _ _ _; refine Run.condD rfl (fun h => ?_) (fun h => ?_)) | (with_reducible first | refine seqN (K := Run _ _ _ _) ?_ | refine seqE ?_ | refine blockN ?_ | refine blockE ?_))
        all_goals first
          | (exfalso; omega)
          | (with_reducible refine seqN ?_
             exact ⟨(i + 1, chosen X (lowd (i : Int) (X.length : Int) os[j].1.toNat)), ⟨by dsimp only; omega, hcl2⟩, by dsimp only; omega, Ent.of (by dsimp only; exact slA) (.cons (by ((with_reducible repeat (first | exact Rem.head | apply Rem.tail)); done)) rfl (.cons (by ((with_reducible repeat (first | exact Rem.head | apply Rem.tail)); done)) (congrArg (fun ys => harr b30 1 (fun x : Int => [vint x]) ys (opN os[j] X * 1)) hset) chA))⟩)
    · subst h8
      have hd := tabsOf_succ (n := n) (k := m) (X := X) hop
      refine Run.sent (T := [hsl tInt (.slice (some ⟨b30, 0, none⟩) (opN os[j] X) (opN os[j] X)) (opTab n m X os[j] (opN os[j] X)), hsl (tS tInt) (vsv s) (tabsOf n m X (os.take j)), hcells bs [vint n, vsl 2 (fun y : Int × (List Int) => [vint y.1, vsl 1 (fun x : Int => [vint x]) y.2]) os, vint (m : Int), vsl 1 (fun t : List Int => [vsl 1 (fun x : Int => [vint x]) t]) X, vmap bm], hmapI bm kv])
        ((SEnt.ch (T := [harr b30 1 (fun x : Int => [vint x]) (opTab n m X os[j] (opN os[j] X)) (opN os[j] X * 1), hsl (tS tInt) (vsv s) (tabsOf n m X (os.take j)), hcells bs [vint n, vsl 2 (fun y : Int × (List Int) => [vint y.1, vsl 1 (fun x : Int => [vint x]) y.2]) os, vint (m : Int), vsl 1 (fun t : List Int => [vsl 1 (fun x : Int => [vint x]) t]) X, vmap bm], hmapI bm kv]) (.cons (.tail .head) (by rw [Nat.sub_self, List.replicate_zero, List.append_nil]) chA)).trans (SEnt.pack (fun _ => rfl) (opTab_length n m X os[j] _).symm)) ?_
      repeat' (first | (with_reducible refine RL.done ?_) | (with_reducible refine RL.wanted ?_ ?_; exact rfl) | ((with_reducible show RH _ _ _ ⟨some 88, .buildSlice _ _ _, _, _, _, _⟩ _ _ _ _); (refine RH.eff rfl rfl (EOpS.e (EOpS.slitV (by ((repeat (first | exact Elts.nil | apply Elts.one1 rfl | apply Elts.agg2 rfl)); done)) (by simp) rfl rfl)) ?_; rintro _ _ ⟨b88, rfl, rfl⟩)) | ((with_reducible show RH _ _ _ ⟨_, .call ⟨.builtin .append, _, _⟩, _, _, _, _⟩ _ _ _ _); (refine RH.appR rfl rfl rfl (by repeat (first | exact Pick.nil | (apply Pick.cons; (with_reducible repeat (first | exact Rem.head | apply Rem.tail))))) (by first | omega | (simp; omega)) (by first | omega | (simp; omega)) ?_); rintro _ _ ⟨s, rfl, rfl⟩) | ((with_reducible show RH _ _ _ _ _ _ _ _); refine RH.val (hK := ?_)) | (with_reducible first | refine Run.seq ?_ | refine Run.region ?_ | refine Run.block ?_ | refine Run.skip ?_ | refine Run.exit ?_) | (with_reducible show Run _ _ (.cond _ _ _) _ _ _; refine Run.condD rfl (fun h => ?_) (fun h => ?_)) | (with_reducible first | refine seqN (K := Run _ _ _ _) ?_ | refine seqE ?_ | refine blockN ?_ | refine blockE ?_))
      all_goals first
        | (exfalso; omega)
        | (with_reducible refine seqN ?_
           exact ⟨(j + 1, _), by dsimp only; omega, by dsimp only; omega, Ent.of (by dsimp only; exact slA) (by dsimp only; rw [hd]; exact chA)⟩)
  · subst h9
    rw [List.take_length]
    repeat' (first | (with_reducible refine RL.done ?_) | (with_reducible refine RL.wanted ?_ ?_; exact rfl) | ((with_reducible show RH _ _ _ ⟨some 5, .alloc _, _, _, _, _⟩ _ _ _ _); refine RH.alloc rfl ?_; rintro _ _ ⟨b5, rfl, rfl⟩) | ((with_reducible show RH _ _ _ _ _ _ _ _); first | refine RH.val (hK := ?_) | refine RH.upd (hK := ?_)) | (with_reducible first | refine Run.seq ?_ | refine Run.region ?_ | refine Run.block ?_ | refine Run.skip ?_ | refine Run.exit ?_ | refine Run.ret ?_) | (with_reducible show Run _ _ (.cond _ _ _) _ _ _; refine Run.condD rfl (fun h => ?_) (fun h => ?_)) | (with_reducible first | refine seqN (K := Run _ _ _ _) ?_ | refine seqE ?_ | refine blockE ?_))
    all_goals first
      | (exfalso; omega)
      | (refine ⟨eA, _, [hsl (tS tInt) (vsv s) (tabsOf n m X os)], resA, ?_, ?_⟩
         · exact SEnt.ch chA
         · exact ⟨s, rfl, rfl⟩)
/-- a row of one's own is taken out -/
theorem SEnt.onerow {w : Sv} {t : List Int} {S : List HP} : SEnt (hrows [(w, t)] :: S) (hsl tInt (vsv w) t :: S) := fun c fs hs => by
  obtain ⟨f, gs, rfl, fss, rfl, h1⟩ := hs.head
  cases h1 with
  | cons hp hr =>
    cases hr
    obtain ⟨v, e, h3⟩ := hp
    have e2 : vsv w = v := by injection e
    subst e2
    exact ⟨_, SHf.perm (f' := _) hs (by simp) h3⟩
theorem SEnt.outrow {w : Sv} {t : List Int} {r : PS} {S : List HP} : SEnt (hrows ((w, t) :: r) :: S) (hsl tInt (vsv w) t :: hrows r :: S) :=
  (SEnt.splitrows (a := [(w, t)]) (b := r)).trans SEnt.onerow
/-- the free algebra as an algebra -/
def falV (n : Int) (os : List (Int × List Int)) (k : Int) (o : Option (List (List Int))) : Option (Int × List (Int × List Int)) := match o with
  | none => none
  | some X => if 1 ≤ X.length ∧ X.length ≤ 8 then some ((X.length : Int), algOps n (fLen n k.toNat) X os) else none
theorem falV_yes {n : Int} {os : List (Int × List Int)} {k : Int} {X : List (List Int)} (h : 1 ≤ X.length ∧ X.length ≤ 8) : falV n os k (some X) = some ((X.length : Int), algOps n (fLen n k.toNat) X os) := if_pos h
theorem falV_no {n : Int} {os : List (Int × List Int)} {k : Int} {X : List (List Int)} (h : ¬ (1 ≤ X.length ∧ X.length ≤ 8)) : falV n os k (some X) = none := if_neg h
abbrev AgRes (o : Option (Int × List (Int × List Int))) (r : VP) (S' : List HP) : Prop := ∃ s : Sv, r = vtup [vagg [vint (o.getD (0, [])).1, vlit (vsv s)], vbool o.isSome] ∧ S' = [hsl (tPair tInt (tS tInt)) (vsv s) (o.getD (0, [])).2]
set_option maxRecDepth 10000 in
set_option maxHeartbeats 2000000 in
theorem specFal_c (n : Int) (os : List (Int × List Int)) (k : Int) (o : Option (List (List Int))) (hoo : FreeIs n os k o) (hol : os.length ≤ 4611686018427387904) (ho : OpsLen os) :
    Spec Try.prog 16 [vagg [vint n, vsl 2 (fun y : Int × (List Int) => [vint y.1, vsl 1 (fun x : Int => [vint x]) y.2]) os], vint k] [] (AgRes (falV n os k (genO (rankB n os k) o))) := by
  cases hO : genO (rankB n os k) o with
  | none =>
    refine Spec.of_run2 (n := 30) Try.func16 rfl Try.results16 Try.ntmps16 rfl ?_
    repeat' (first | (with_reducible first | refine RL.done ?_ | refine RL.app1 ?_) | (with_reducible refine RL.wanted ?_ ?_; exact rfl) | ((with_reducible show RH _ _ _ ⟨some 2, .box _ _, _, _, _, _⟩ _ _ _ _); (refine RH.boxAgg rfl rfl ?_; rintro _ _ ⟨b2, rfl, rfl⟩)) | ((with_reducible show RH _ _ _ ⟨some 4, .alloc _, _, _, _, _⟩ _ _ _ _); refine RH.alloc rfl ?_; rintro _ _ ⟨b4, rfl, rfl⟩) | ((with_reducible show RH _ _ _ ⟨_, .call ⟨.value (.func 77), _, _⟩, _, _, _, _⟩ _ _ _ _); refine RH.cP Try.call77 ?_; refine ⟨_, freeS_no hoo hol ho hO, ?_⟩; rintro _ _ ⟨s8, rfl, rfl⟩) | ((with_reducible show RH _ _ _ _ _ _ _ _); first | refine RH.val (hK := ?_) | refine RH.upd (hK := ?_)) | (with_reducible show RL _ _ _ (_ :: _) _ _ _; refine RL.guardNoS rfl rfl rfl rfl rfl rfl ?_) | (with_reducible first | refine Run.seq ?_ | refine Run.region ?_ | refine Run.ret ?_) | (with_reducible show Run _ _ (.cond _ _ _) _ _ _; refine Run.condT rfl ?_) | (with_reducible first | refine seqN (K := Run _ _ _ _) ?_ | refine seqR ?_))
    all_goals (refine ⟨eA, _, [hsl (tPair tInt (tS tInt)) (vsv (none, 0, 0)) []], resA, ?_, ?_⟩
               · exact (SEnt.ch .nil).trans (SEnt.nil _ _)
               · exact ⟨(none, 0, 0), rfl, rfl⟩)
  | some X =>
    obtain ⟨hg, rfl⟩ := genO_some hO
    have hF := free_ok hg hoo
    obtain ⟨ha, hk, hp⟩ := rankB_at hg
    obtain ⟨hn1, hn8, _, _⟩ := algB_at ha
    obtain ⟨hfl, hf1, hf64⟩ := fLen_at hg
    by_cases hX : 1 ≤ X.length ∧ X.length ≤ 8
    · have hpow := l2Pow_c n k.toNat (by omega) (by omega) (by omega)
      rw [← hfl, Int.toNat_of_nonneg hk.1] at hpow
      rw [falV_yes hX]
      refine Spec.of_run2 (n := 30) Try.func16 rfl Try.results16 Try.ntmps16 rfl ?_
      repeat' (first | (with_reducible first | refine RL.done ?_ | refine RL.app0 ?_ | refine RD.app0 ?_ | refine RD.app1 ?_) | (with_reducible refine RL.wanted ?_ ?_; exact rfl) | ((with_reducible show Run _ _ (.region 4 _ true) _ _ _); refine Run.regionD (fun i => i == 7) rfl ?_; change RD _ _ _ _ _ _ 9 (dm 9 0) _ _) | ((with_reducible show RD _ _ 4 _ _ _ _ _ _ _); first | ((with_reducible show RD _ _ _ _ _ _ _ (dm 9 0) _ _); refine RD.tk 0 (dm 9 448) (dm 9 1) (hK := ?_)) | ((with_reducible show RD _ _ _ _ _ _ _ (dm 9 1) _ _); refine RD.tk 1 (dm 9 468) (dm 9 3) (hK := ?_)) | ((with_reducible show RD _ _ _ _ _ _ _ (dm 9 3) _ _); refine RD.tk 2 (dm 9 464) (dm 9 7) (hK := ?_)) | ((with_reducible show RD _ _ _ _ _ _ _ (dm 9 7) _ _); refine RD.tk 3 (dm 9 464) (dm 9 15) (hK := ?_)) | ((with_reducible show RD _ _ _ _ _ _ _ (dm 9 15) _ _); refine RD.tk 5 (dm 9 448) (dm 9 47) (hK := ?_)) | ((with_reducible show RD _ _ _ _ _ _ _ (dm 9 47) _ _); refine RD.a1 4 ?_) | ((with_reducible show RD _ _ _ _ _ _ _ (dm 9 63) _ _); refine RD.a1 6 ?_) | ((with_reducible show RD _ _ _ _ _ _ _ (dm 9 127) _ _); refine RD.a1 7 ?_) | ((with_reducible show RD _ _ _ _ _ _ _ (dm 9 255) _ _); refine RD.tk 8 (dm 9 0) (dm 9 511) (hK := ?_)) | ((with_reducible show RD _ _ _ _ _ _ 0 _ _ _); refine RD.done (by kernel_rfl) ?_)) | ((with_reducible show RO _ _ 4 _ _ _ _ _ _ _ _); first | ((with_reducible show RO _ _ _ _ _ _ _ (dm 9 47) 4 _ _); (refine RO.cP (dm 9 63) Try.call80 ?_; refine ⟨_, hpow, ?_⟩; rintro _ _ ⟨rfl, rfl⟩)) | ((with_reducible show RO _ _ _ _ _ _ _ (dm 9 63) 6 _ _); (refine RO.cP (dm 9 127) Try.call79 ?_; refine ⟨_, l8Algebra_c n os (fLen n k.toNat) X ha (by omega) hF.tup hF.srt hF.cl hX, ?_⟩; rintro _ _ ⟨s29, rfl, rfl⟩)) | ((with_reducible show RO _ _ _ _ _ _ _ (dm 9 127) 7 _ _); (refine RO.h (dm 9 255) ?_; show RH _ _ _ ⟨_, _, _, _, _, _⟩ _ _ _ _))) | ((with_reducible show RH _ _ _ ⟨some 2, .box _ _, _, _, _, _⟩ _ _ _ _); (refine RH.boxAgg rfl rfl ?_; rintro _ _ ⟨b2, rfl, rfl⟩)) | ((with_reducible show RH _ _ _ ⟨some 4, .alloc _, _, _, _, _⟩ _ _ _ _); refine RH.alloc rfl ?_; rintro _ _ ⟨b4, rfl, rfl⟩) | ((with_reducible show RH _ _ _ ⟨_, .call ⟨.value (.func 77), _, _⟩, _, _, _, _⟩ _ _ _ _); refine RH.cP Try.call77 ?_; refine ⟨_, freeS_frz hoo hol ho hO, ?_⟩; rintro _ _ ⟨rfl, rfl⟩) | ((with_reducible show RH _ _ _ ⟨_, .call ⟨.value (.func 78), _, _⟩, _, _, _, _⟩ _ _ _ _); refine RH.cP Try.call78 ?_; refine ⟨_, l1In_c _ _ _, ?_⟩; rintro _ _ ⟨rfl, rfl⟩) | ((with_reducible show RH _ _ _ _ _ _ _ _); first | refine RH.val (hK := ?_) | refine RH.upd (hK := ?_)) | (with_reducible show RL _ _ _ (_ :: _) _ _ _; refine RL.guardYes rfl rfl rfl rfl ?_) | (with_reducible first | refine Run.seq ?_ | refine Run.region ?_ | refine Run.skip ?_ | refine Run.ret ?_) | (with_reducible show Run _ _ (.cond _ _ _) _ _ _; refine Run.condND rfl (fun h => ?_) (fun h => ?_)) | (with_reducible first | refine seqN (K := Run _ _ _ _) ?_ | refine seqR ?_))
      all_goals first
        | (exfalso; omega)
        | (exfalso; simp_all; done)
        | (exfalso; simp_all; omega)
        | (refine ⟨eA, _, [hsl (tPair tInt (tS tInt)) (vsv s29) (algOps n (fLen n k.toNat) X os)], resA, ?_, ?_⟩
           · exact SEnt.ch chA
           · exact ⟨s29, rfl, rfl⟩)
    · rw [falV_no hX]
      refine Spec.of_run2 (n := 30) Try.func16 rfl Try.results16 Try.ntmps16 rfl ?_
      repeat' (first | (with_reducible first | refine RL.done ?_ | refine RL.app0 ?_) | (with_reducible refine RL.wanted ?_ ?_; exact rfl) | ((with_reducible show RH _ _ _ ⟨some 2, .box _ _, _, _, _, _⟩ _ _ _ _); (refine RH.boxAgg rfl rfl ?_; rintro _ _ ⟨b2, rfl, rfl⟩)) | ((with_reducible show RH _ _ _ ⟨some 4, .alloc _, _, _, _, _⟩ _ _ _ _); refine RH.alloc rfl ?_; rintro _ _ ⟨b4, rfl, rfl⟩) | ((with_reducible show RH _ _ _ ⟨_, .call ⟨.value (.func 77), _, _⟩, _, _, _, _⟩ _ _ _ _); refine RH.cP Try.call77 ?_; refine ⟨_, freeS_frz hoo hol ho hO, ?_⟩; rintro _ _ ⟨rfl, rfl⟩) | ((with_reducible show RH _ _ _ ⟨_, .call ⟨.value (.func 78), _, _⟩, _, _, _, _⟩ _ _ _ _); refine RH.cP Try.call78 ?_; refine ⟨_, l1In_c _ _ _, ?_⟩; rintro _ _ ⟨rfl, rfl⟩) | ((with_reducible show RH _ _ _ _ _ _ _ _); first | refine RH.val (hK := ?_) | refine RH.upd (hK := ?_)) | (with_reducible show RL _ _ _ (_ :: _) _ _ _; refine RL.guardYes rfl rfl rfl rfl ?_) | (with_reducible first | refine Run.seq ?_ | refine Run.region ?_ | refine Run.skip ?_ | refine Run.ret ?_) | (with_reducible show Run _ _ (.cond _ _ _) _ _ _; refine Run.condND rfl (fun h => ?_) (fun h => ?_)) | (with_reducible first | refine seqN (K := Run _ _ _ _) ?_ | refine seqR ?_))
      all_goals first
        | (refine ⟨eA, _, [hsl (tPair tInt (tS tInt)) (vsv (none, 0, 0)) []], resA, ?_, ?_⟩
           · exact (SEnt.ch .nil).trans (SEnt.nil _ _)
           · exact ⟨(none, 0, 0), rfl, rfl⟩)
        | (exfalso; omega)
        | (exfalso; simp_all; done)
        | (exfalso; simp_all; omega)
set_option maxRecDepth 10000 in
set_option maxHeartbeats 2000000 in
theorem implFal_c (n : Int) (os : List (Int × List Int)) (k : Int) (o : Option (List (List Int))) (hoo : FreeIs n os k o) (hol : os.length ≤ 4611686018427387904) (ho : OpsLen os) :
    Spec Try.prog 18 [vagg [vint n, vsl 2 (fun y : Int × (List Int) => [vint y.1, vsl 1 (fun x : Int => [vint x]) y.2]) os], vint k] [] (AgRes (falV n os k (genO (rankB n os k) o))) := by
  cases hO : genO (rankB n os k) o with
  | none =>
    refine Spec.of_run2 (n := 77) Try.func18 rfl Try.results18 Try.ntmps18 rfl ?_
    repeat' (first | (with_reducible first | refine RL.done ?_ | refine RL.app0 ?_) | (with_reducible refine RL.wanted ?_ ?_; exact rfl) | ((with_reducible show RH _ _ _ ⟨some 2, .box _ _, _, _, _, _⟩ _ _ _ _); (refine RH.boxAgg rfl rfl ?_; rintro _ _ ⟨b2, rfl, rfl⟩)) | ((with_reducible show RH _ _ _ ⟨some 4, .alloc _, _, _, _, _⟩ _ _ _ _); refine RH.alloc rfl ?_; rintro _ _ ⟨b4, rfl, rfl⟩) | ((with_reducible show RH _ _ _ ⟨_, .call ⟨.value (.func 82), _, _⟩, _, _, _, _⟩ _ _ _ _); refine RH.cP Try.call82 ?_; refine ⟨_, freeI_no hoo hol ho hO, ?_⟩; rintro _ _ ⟨rfl, rfl⟩) | ((with_reducible show RH _ _ _ _ _ _ _ _); first | refine RH.val (hK := ?_) | refine RH.upd (hK := ?_)) | (with_reducible show RL _ _ _ (_ :: _) _ _ _; refine RL.guardNoS rfl rfl rfl rfl rfl rfl ?_) | (with_reducible first | refine Run.seq ?_ | refine Run.region ?_ | refine Run.ret ?_) | (with_reducible show Run _ _ (.cond _ _ _) _ _ _; refine Run.condT rfl ?_) | (with_reducible first | refine seqN (K := Run _ _ _ _) ?_ | refine seqR ?_))
    all_goals (refine ⟨eA, _, [hsl (tPair tInt (tS tInt)) (vsv (none, 0, 0)) []], resA, ?_, ?_⟩
               · exact (SEnt.ch .nil).trans (SEnt.nil _ _)
               · exact ⟨(none, 0, 0), rfl, rfl⟩)
  | some X =>
    obtain ⟨hg, rfl⟩ := genO_some hO
    have hF := free_ok hg hoo
    obtain ⟨ha, hk, hp⟩ := rankB_at hg
    obtain ⟨hn1, hn8, ho4, _⟩ := algB_at ha
    obtain ⟨hfl, hf1, hf64⟩ := fLen_at hg
    by_cases hX : 1 ≤ X.length ∧ X.length ≤ 8
    · rw [falV_yes hX]
      refine Spec.of_run2 (n := 77) Try.func18 rfl Try.results18 Try.ntmps18 rfl ?_
      repeat' (first | (with_reducible first | refine RL.done ?_ | refine RL.app3 ?_) | (with_reducible refine RL.wanted ?_ ?_; exact rfl) | ((with_reducible show RH _ _ _ ⟨some 2, .box _ _, _, _, _, _⟩ _ _ _ _); (refine RH.boxAgg rfl rfl ?_; rintro _ _ ⟨b2, rfl, rfl⟩)) | ((with_reducible show RH _ _ _ ⟨some 4, .alloc _, _, _, _, _⟩ _ _ _ _); refine RH.alloc rfl ?_; rintro _ _ ⟨b4, rfl, rfl⟩) | ((with_reducible show RH _ _ _ ⟨some 8, .alloc _, _, _, _, _⟩ _ _ _ _); refine RH.alloc rfl ?_; rintro _ _ ⟨b8, rfl, rfl⟩) | ((with_reducible show RH _ _ _ ⟨_, .call ⟨.value (.func 82), _, _⟩, _, _, _, _⟩ _ _ _ _); refine RH.cP Try.call82 ?_; refine ⟨_, freeI_frz hoo hol ho hO, ?_⟩; rintro _ _ ⟨b, bs, bm, kv, rfl, rfl, hkv⟩) | ((with_reducible show RH _ _ _ ⟨_, .call ⟨.value (.func 83), _, _⟩, _, _, _, _⟩ _ _ _ _); refine RH.cW Try.call83 ?_; refine ⟨_, _, _, (by repeat (first | exact Pick.nil | (apply Pick.cons; (with_reducible repeat (first | exact Rem.head | apply Rem.tail))))), valueTables_c n os (fLen n k.toNat) X ha hf64 hF.tup hF.cl hX bs bm kv hkv, ?_⟩; rintro _ _ ⟨s55, rfl, rfl⟩; refine RL.nm ?_) | ((with_reducible show RH _ _ _ _ _ _ _ _); first | refine RH.val (hK := ?_) | refine RH.upd (hK := ?_)) | (with_reducible show RL _ _ _ (_ :: _) _ _ _; first | refine RL.guardYes rfl rfl rfl rfl ?_ | refine RL.guardNoS rfl rfl rfl rfl rfl rfl ?_ | refine RL.splitD rfl rfl rfl (fun h => ?_) (fun h => ?_)) | (with_reducible first | refine Run.seq ?_ | refine Run.region ?_ | refine Run.block ?_ | refine Run.skip ?_ | refine Run.ret ?_) | (with_reducible show Run _ _ (.cond _ _ _) _ _ _; first | refine Run.condT rfl ?_ | refine Run.condD rfl (fun h => ?_) (fun h => ?_)) | (with_reducible first | refine seqN (K := Run _ _ _ _) ?_ | refine seqR ?_))
      all_goals first
        | (exfalso; omega)
        | skip
      refine Run.unrows (xs := tabsOf n (fLen n k.toNat) X os) (by ((with_reducible repeat (first | exact Rem.head | apply Rem.tail)); done)) ?_
      intro ps hps
      obtain ⟨V, hV⟩ : ∃ V, ps.map Prod.fst = V := ⟨_, rfl⟩
      have hpl : ps.length = os.length := by have := congrArg List.length hps; simpa [tabsOf] using this
      have hvl : V.length = os.length := by rw [← hV, List.length_map, hpl]
      have htl : (tabsOf n (fLen n k.toNat) X os).length = os.length := by simp [tabsOf]
      rw [hV]
      refine Run.frzSl (t := tSv) 55 rfl .head ?_
      rw [htl]
      refine Run.sent (T := [hsl (tPair tInt (tS tInt)) (vsv (none, 0, 0)) [], hcells b8 [vint (X.length : Int), vlit (vsv (none, 0, 0))], hrows ps, hcells b4 [vint 0, vlit (.slice none 0 0)], hcells b2 [vint n, vsl 2 (fun y : Int × (List Int) => [vint y.1, vsl 1 (fun x : Int => [vint x]) y.2]) os]]) ((SEnt.ch (T := [hcells b8 [vint (X.length : Int), vlit (vsv (none, 0, 0))], hrows ps, hcells b4 [vint 0, vlit (.slice none 0 0)], hcells b2 [vint n, vsl 2 (fun y : Int × (List Int) => [vint y.1, vsl 1 (fun x : Int => [vint x]) y.2]) os]]) (by repeat (first | exact Ch.nil | refine Ch.same (by repeat (first | exact Rem.head | apply Rem.tail)) ?_))).trans (SEnt.nil _ _)) ?_
      refine Run.loop (α := Nat × Sv) (fun z => [(2, vptr b2 0), (4, vptr b4 0), (8, vptr b8 0), (55, vsl 1 (fun s : Sv => [vlit (vsv s)]) V), (56, vint (os.length : Int)), (57, vint (z.1 : Int))])
        (fun z => [hsl (tPair tInt (tS tInt)) (vsv z.2) (algOps n (fLen n k.toNat) X (os.take z.1)), hcells b8 [vint (X.length : Int), vlit (vsv z.2)], hrows (ps.drop z.1), hcells b4 [vint 0, vlit (.slice none 0 0)], hcells b2 [vint n, vsl 2 (fun y : Int × (List Int) => [vint y.1, vsl 1 (fun x : Int => [vint x]) y.2]) os]])
        (fun z => z.1 ≤ os.length) (fun z => os.length - z.1) (0, (none, 0, 0)) (Nat.zero_le _) (Ent.of slA .refl) ?_
      rintro ⟨m, s⟩ hm
      dsimp only at hm ⊢
      have hal : (algOps n (fLen n k.toNat) X (os.take m)).length ≤ 4 := by rw [algOps, List.length_map, List.length_take]; omega
      rcases Nat.lt_or_eq_of_le hm with h9 | h9
      · have hm9 : m < ps.length := by omega
        have hv1 : ps[m].1 = V[m]'(by omega) := by simp only [← hV, List.getElem_map]
        have hs2 : ps[m].2 = opTab n (fLen n k.toNat) X os[m] (opN os[m] X) := by
          have h := List.getElem_of_eq hps (i := m) (by rw [List.length_map]; exact hm9)
          simpa only [tabsOf, List.getElem_map] using h
        have hdr : ps.drop m = (V[m]'(by omega), opTab n (fLen n k.toNat) X os[m] (opN os[m] X)) :: ps.drop (m + 1) := by
          rw [List.drop_eq_getElem_cons hm9, ← hv1, ← hs2]
        have hd := algOps_succ (n := n) (k := fLen n k.toNat) (X := X) h9
        refine Run.sent (T := [hsl tInt (vsv (V[m]'(by omega))) (opTab n (fLen n k.toNat) X os[m] (opN os[m] X)), hrows (ps.drop (m + 1)), hsl (tPair tInt (tS tInt)) (vsv s) (algOps n (fLen n k.toNat) X (os.take m)), hcells b8 [vint (X.length : Int), vlit (vsv s)], hcells b4 [vint 0, vlit (.slice none 0 0)], hcells b2 [vint n, vsl 2 (fun y : Int × (List Int) => [vint y.1, vsl 1 (fun x : Int => [vint x]) y.2]) os]])
          ((SEnt.pick (B := [hrows (ps.drop m)]) (.cons (.tail (.tail .head)) .nil)).trans (by rw [hdr]; exact SEnt.outrow)) ?_
        repeat' (first | (with_reducible refine RL.done ?_) | (with_reducible refine RL.wanted ?_ ?_; exact rfl) | ((with_reducible show Run _ _ (.region 8 _ true) _ _ _); refine Run.regionD (fun i => i == 11 || i == 13) rfl ?_; change RD _ _ _ _ _ _ 14 (dm 14 0) _ _) | ((with_reducible show RD _ _ 8 _ _ _ _ _ _ _); first | ((with_reducible show RD _ _ _ _ _ _ _ (dm 14 0) _ _); refine RD.tk 0 (dm 14 14338) (dm 14 1) (hK := ?_)) | ((with_reducible show RD _ _ _ _ _ _ _ (dm 14 1) _ _); refine RD.tk 1 (dm 14 14336) (dm 14 3) (hK := ?_)) | ((with_reducible show RD _ _ _ _ _ _ _ (dm 14 3) _ _); refine RD.tk 2 (dm 14 16104) (dm 14 7) (hK := ?_)) | ((with_reducible show RD _ _ _ _ _ _ _ (dm 14 7) _ _); refine RD.tk 3 (dm 14 16096) (dm 14 15) (hK := ?_)) | ((with_reducible show RD _ _ _ _ _ _ _ (dm 14 15) _ _); refine RD.tk 4 (dm 14 16096) (dm 14 31) (hK := ?_)) | ((with_reducible show RD _ _ _ _ _ _ _ (dm 14 31) _ _); refine RD.tk 5 (dm 14 16064) (dm 14 63) (hK := ?_)) | ((with_reducible show RD _ _ _ _ _ _ _ (dm 14 63) _ _); refine RD.tk 6 (dm 14 16000) (dm 14 127) (hK := ?_)) | ((with_reducible show RD _ _ _ _ _ _ _ (dm 14 127) _ _); refine RD.tk 7 (dm 14 15872) (dm 14 255) (hK := ?_)) | ((with_reducible show RD _ _ _ _ _ _ _ (dm 14 255) _ _); refine RD.tk 8 (dm 14 15872) (dm 14 511) (hK := ?_)) | ((with_reducible show RD _ _ _ _ _ _ _ (dm 14 511) _ _); refine RD.tk 9 (dm 14 15360) (dm 14 1023) (hK := ?_)) | ((with_reducible show RD _ _ _ _ _ _ _ (dm 14 1023) _ _); refine RD.a1 10 ?_) | ((with_reducible show RD _ _ _ _ _ _ _ (dm 14 2047) _ _); refine RD.a1 11 ?_) | ((with_reducible show RD _ _ _ _ _ _ _ (dm 14 4095) _ _); refine RD.tk 12 (dm 14 8192) (dm 14 8191) (hK := ?_)) | ((with_reducible show RD _ _ _ _ _ _ _ (dm 14 8191) _ _); refine RD.a1 13 ?_) | ((with_reducible show RD _ _ _ _ _ _ 0 _ _ _); refine RD.done (by kernel_rfl) ?_)) | ((with_reducible show RO _ _ 8 _ _ _ _ _ _ _ _); first | ((with_reducible show RO _ _ _ _ _ _ _ (dm 14 1023) 10 _ _); (refine RO.eS (dm 14 2047) (hv := by show EOpS _ _ _ _ ⟨_, .buildSlice _ _ _, _, _, _, _⟩ _; exact EOpS.slitV (by repeat (first | exact Elts.nil | apply Elts.one1 rfl | apply Elts.agg2 rfl)) (by simp) rfl rfl) (h := ?_); rintro _ _ ⟨b72, rfl, rfl⟩)) | ((with_reducible show RO _ _ _ _ _ _ _ (dm 14 2047) 11 _ _); (refine RO.h (dm 14 4095) ?_; show RH _ _ _ ⟨_, _, _, _, _, _⟩ _ _ _ _)) | ((with_reducible show RO _ _ _ _ _ _ _ (dm 14 8191) 13 _ _); (refine RO.h (dm 14 16383) ?_; show RH _ _ _ ⟨_, _, _, _, _, _⟩ _ _ _ _))) | ((with_reducible show RH _ _ _ ⟨_, .call ⟨.builtin .append, _, _⟩, _, _, _, _⟩ _ _ _ _); (refine RH.appPI rfl rfl rfl (by repeat (first | exact Pick.nil | (apply Pick.cons; (with_reducible repeat (first | exact Rem.head | apply Rem.tail))))) (by first | omega | (simp; omega)) (by first | omega | (simp; omega)) ?_); rintro _ _ ⟨s, rfl, rfl⟩) | ((with_reducible show RH _ _ _ _ _ _ _ _); first | refine RH.val (hK := ?_) | refine RH.upd (hK := ?_)) | (with_reducible first | refine Run.seq ?_ | refine Run.region ?_ | refine Run.block ?_ | refine Run.skip ?_ | refine Run.exit ?_ | refine Run.ret ?_) | (with_reducible show Run _ _ (.cond _ _ _) _ _ _; refine Run.condD rfl (fun h => ?_) (fun h => ?_)) | (with_reducible first | refine seqN (K := Run _ _ _ _) ?_ | refine seqE ?_ | refine blockN ?_ | refine blockE ?_))
        all_goals first
          | (exfalso; omega)
          | (with_reducible refine seqN ?_
             exact ⟨(m + 1, _), by dsimp only; omega, by dsimp only; omega, Ent.of (by dsimp only; exact slA) (by dsimp only; rw [hd]; exact chA)⟩)
      · subst h9
        rw [List.take_length]
        repeat' (first | (with_reducible refine RL.done ?_) | (with_reducible refine RL.wanted ?_ ?_; exact rfl) | ((with_reducible show RH _ _ _ _ _ _ _ _); first | refine RH.val (hK := ?_) | refine RH.upd (hK := ?_)) | (with_reducible first | refine Run.seq ?_ | refine Run.region ?_ | refine Run.block ?_ | refine Run.skip ?_ | refine Run.exit ?_ | refine Run.ret ?_) | (with_reducible show Run _ _ (.cond _ _ _) _ _ _; refine Run.condD rfl (fun h => ?_) (fun h => ?_)) | (with_reducible first | refine seqN (K := Run _ _ _ _) ?_ | refine seqE ?_ | refine blockE ?_))
        all_goals first
          | (exfalso; omega)
          | (refine ⟨eA, _, [hsl (tPair tInt (tS tInt)) (vsv s) (algOps n (fLen n k.toNat) X os)], resA, ?_, ?_⟩
             · exact SEnt.ch chA
             · exact ⟨s, rfl, rfl⟩)
    · rw [falV_no hX]
      refine Spec.of_run2 (n := 77) Try.func18 rfl Try.results18 Try.ntmps18 rfl ?_
      repeat' (first | (with_reducible first | refine RL.done ?_ | refine RL.app3 ?_) | (with_reducible refine RL.wanted ?_ ?_; exact rfl) | ((with_reducible show RH _ _ _ ⟨some 2, .box _ _, _, _, _, _⟩ _ _ _ _); (refine RH.boxAgg rfl rfl ?_; rintro _ _ ⟨b2, rfl, rfl⟩)) | ((with_reducible show RH _ _ _ ⟨some 4, .alloc _, _, _, _, _⟩ _ _ _ _); refine RH.alloc rfl ?_; rintro _ _ ⟨b4, rfl, rfl⟩) | ((with_reducible show RH _ _ _ ⟨some 8, .alloc _, _, _, _, _⟩ _ _ _ _); refine RH.alloc rfl ?_; rintro _ _ ⟨b8, rfl, rfl⟩) | ((with_reducible show RH _ _ _ ⟨_, .call ⟨.value (.func 82), _, _⟩, _, _, _, _⟩ _ _ _ _); refine RH.cP Try.call82 ?_; refine ⟨_, freeI_frz hoo hol ho hO, ?_⟩; rintro _ _ ⟨b, bs, bm, kv, rfl, rfl, hkv⟩) | ((with_reducible show RH _ _ _ _ _ _ _ _); first | refine RH.val (hK := ?_) | refine RH.upd (hK := ?_)) | (with_reducible show RL _ _ _ (_ :: _) _ _ _; first | refine RL.guardYes rfl rfl rfl rfl ?_ | refine RL.guardNoS rfl rfl rfl rfl rfl rfl ?_ | refine RL.splitD rfl rfl rfl (fun h => ?_) (fun h => ?_)) | (with_reducible first | refine Run.seq ?_ | refine Run.region ?_ | refine Run.skip ?_ | refine Run.ret ?_) | (with_reducible show Run _ _ (.cond _ _ _) _ _ _; first | refine Run.condT rfl ?_ | refine Run.condD rfl (fun h => ?_) (fun h => ?_)) | (with_reducible first | refine seqN (K := Run _ _ _ _) ?_ | refine seqR ?_))
      all_goals first
        | (refine ⟨eA, _, [hsl (tPair tInt (tS tInt)) (vsv (none, 0, 0)) []], resA, ?_, ?_⟩
           · exact (SEnt.ch .nil).trans (SEnt.nil _ _)
           · exact ⟨(none, 0, 0), rfl, rfl⟩)
        | (exfalso; omega)
end Go.Proofs.Ytejeeokjjbiadaa

namespace Go.Proofs.Ytejeeokjjbiadaa
open Go Go.Proofs
set_option linter.unusedVariables false

theorem fal_small {n : Int} {os : List (Int × List Int)} {k : Int} {o : Option (List (List Int))} (hoo : FreeIs n os k o) (g : Int × List Int → Nat) (hgl : ∀ y, g y ≤ 1 + y.2.length) : ((falV n os k (genO (rankB n os k) o)).getD (0, [])).2.length + sm (((falV n os k (genO (rankB n os k) o)).getD (0, [])).2.map g) ≤ 8388608 := by
  cases hO : genO (rankB n os k) o with
  | none => simp [falV, sm]
  | some X =>
    by_cases hX : 1 ≤ X.length ∧ X.length ≤ 8
    · rw [falV_yes hX]
      have hg : rankB n os k = true := by
        cases h : rankB n os k with
        | true => rfl
        | false => rw [h] at hO; cases hO
      obtain ⟨ha, _⟩ := rankB_at hg
      obtain ⟨hn1, hn8, ho4, hops⟩ := algB_at ha
      have h1 : ∀ y ∈ algOps n (fLen n k.toNat) X os, g y ≤ 513 := fun y hy => by
        obtain ⟨f, hf, rfl⟩ := List.mem_map.1 hy
        have h := hops f hf
        simp only [opB, Bool.and_eq_true, decide_eq_true_eq] at h
        have h2 := pw_512' (X.length : Int) (by omega) (by omega) f.1.toNat (by omega)
        have h3 := hgl (f.1, opTab n (fLen n k.toNat) X f (opN f X))
        simp only [opTab, List.length_map, List.length_range] at h3 ⊢
        rw [opN] at h3 ⊢
        omega
      have h4 : ∀ l : List (Int × List Int), (∀ y ∈ l, g y ≤ 513) → sm (l.map g) ≤ l.length * 513 := fun l => by
        induction l with
        | nil => intro _; simp [sm]
        | cons t l ih =>
          intro h
          have h5 := h t (by simp)
          have h6 := ih fun u hu => h u (by simp [hu])
          simp only [List.map_cons, sm, List.length_cons, Nat.succ_mul]; omega
      have h7 := h4 _ h1
      have h8 : (algOps n (fLen n k.toNat) X os).length ≤ 4 := by rw [algOps, List.length_map]; exact ho4
      show (algOps n (fLen n k.toNat) X os).length + sm ((algOps n (fLen n k.toNat) X os).map g) ≤ 8388608
      omega
    · rw [falV_no hX]; simp [sm]
set_option maxRecDepth 10000 in
set_option maxHeartbeats 8000000 in
theorem law_g (a : Int × (List (Int × (List Int)))) (k : Int) (r0a : Int) (r0 : List (Int × (List Int))) (r1 : Bool) (g0 : (InR a.1) ∧ (a.2.length ≤ 9223372036854775807 ∧ ∀ y0 ∈ a.2, (InR y0.1) ∧ (y0.2.length ≤ 9223372036854775807 ∧ ∀ y1 ∈ y0.2, InR y1))) (g1 : InR k)
    (hall : a.2.length + sm (List.map (fun y : Int × (List Int) => y.2.length) a.2) ≤ 1048576 → Spec Try.prog 16 [vagg [vint a.1, vsl 2 (fun y : Int × (List Int) => [vint y.1, vsl 1 (fun x : Int => [vint x]) y.2]) a.2], vint k] [] (fun r S' => ∃ w0 : Sv, r = vtup [vagg [vint r0a, vlit (vsv w0)], vbool (r1)] ∧ S' = [hsl (tPair tInt (tS tInt)) (vsv w0) r0]) ∧ Spec Try.prog 18 [vagg [vint a.1, vsl 2 (fun y : Int × (List Int) => [vint y.1, vsl 1 (fun x : Int => [vint x]) y.2]) a.2], vint k] [] (fun r S' => ∃ w0 : Sv, r = vtup [vagg [vint r0a, vlit (vsv w0)], vbool (r1)] ∧ S' = [hsl (tPair tInt (tS tInt)) (vsv w0) r0]) ∧ r0.length + sm (List.map (fun y : Int × (List Int) => y.2.length) r0) ≤ 1073741824) :
    Spec Try.prog 3 [vagg [vint a.1, vsl 2 (fun y : Int × (List Int) => [vint y.1, vsl 1 (fun x : Int => [vint x]) y.2]) a.2], vint k] [] (fun r S' => r = vbool true ∧ S' = []) := by
  refine Spec.of_run2 (n := 101) Try.func3 rfl Try.results3 Try.ntmps3 rfl ?_
  repeat' (first | (with_reducible first | refine RL.done ?_ | refine RL.app0 ?_) | (with_reducible refine RL.wanted ?_ ?_; exact rfl) | ((with_reducible show RH _ _ _ ⟨some 2, .box _ _, _, _, _, _⟩ _ _ _ _); (refine RH.boxAgg rfl rfl ?_; rintro _ _ ⟨b2, rfl, rfl⟩)) | ((with_reducible show RH _ _ _ ⟨_, .call ⟨.value (.func 15), _, _⟩, _, _, _, _⟩ _ _ _ _); refine RH.cP Try.call15 ?_; refine ⟨_, szAlgebra_c (a) _ (by omega) (by omega) g0, ?_⟩; rintro _ _ ⟨q0, rfl, rfl, hq0, hp0⟩) | ((with_reducible show RH _ _ _ _ _ _ _ _); refine RH.val (hK := ?_)) | (with_reducible first | refine Run.seq ?_ | refine Run.region ?_ | refine Run.skip ?_ | refine Run.ret ?_) | (with_reducible show Run _ _ (.cond _ _ _) _ _ _; refine Run.condD rfl (fun h => ?_) (fun h => ?_)) | (with_reducible first | refine seqN (K := Run _ _ _ _) ?_ | refine seqR ?_))
  · refine ⟨eA, _, [], resA, .ch .nil, ?_⟩; exact ⟨rfl, rfl⟩
  · have hz0 := hp0 (by omega)
    have hS_a : a.2.length + sm (List.map (fun y : Int × (List Int) => y.2.length) a.2) ≤ 1048576 := by omega
    obtain ⟨hspec, himpl, hsm0⟩ := hall hS_a
    have hC0 := Algebra_cxle r0
    (try dsimp only at *)
    repeat' (first | (with_reducible first | refine RL.done ?_ | refine RL.app1 ?_ | refine RD.app1 ?_) | (with_reducible refine RL.wanted ?_ ?_; exact rfl) | ((with_reducible show Run _ _ (.region 10 _ true) _ _ _); refine Run.regionD (fun i => false) rfl ?_; change RD _ _ _ _ _ _ 5 (dm 5 0) _ _) | ((with_reducible show RD _ _ 10 _ _ _ _ _ _ _); first | ((with_reducible show RD _ _ _ _ _ _ _ (dm 5 0) _ _); refine RD.tk 0 (dm 5 24) (dm 5 1) (hK := ?_)) | ((with_reducible show RD _ _ _ _ _ _ _ (dm 5 1) _ _); refine RD.tk 1 (dm 5 28) (dm 5 3) (hK := ?_)) | ((with_reducible show RD _ _ _ _ _ _ _ (dm 5 3) _ _); refine RD.a1 2 ?_) | ((with_reducible show RD _ _ _ _ _ _ _ (dm 5 7) _ _); refine RD.a1 3 ?_) | ((with_reducible show RD _ _ _ _ _ _ _ (dm 5 15) _ _); refine RD.tk 4 (dm 5 0) (dm 5 31) (hK := ?_)) | ((with_reducible show RD _ _ _ _ _ _ 0 _ _ _); refine RD.done (by kernel_rfl) ?_)) | ((with_reducible show RO _ _ 10 _ _ _ _ _ _ _ _); first | ((with_reducible show RO _ _ _ _ _ _ _ (dm 5 3) 2 _ _); (refine RO.cP (dm 5 7) Try.call17 ?_; refine ⟨_, toAlgebra_c (a) (by omega), ?_⟩; rintro _ _ ⟨s00, rfl, rfl⟩)) | ((with_reducible show RO _ _ _ _ _ _ _ (dm 5 7) 3 _ _); (refine RO.cL (dm 5 15) Try.call19 ?_; apply Exists.intro; apply And.intro; (focus ((repeat (first | exact LVs.nil | (apply LVs.sl; (with_reducible repeat (first | exact Has.head | apply Has.tail)); exact inferInstance; exact rfl) | apply LVs.agg | apply LVs.refl)); done)); refine ⟨_, eqAlgebra_g a a (by omega), (by intro r H h; first | (obtain ⟨rfl, rfl⟩ := h; exact ⟨inferInstance, inferInstance⟩) | (obtain ⟨_, rfl, rfl⟩ := h; exact ⟨inferInstance, inferInstance⟩) | (obtain ⟨_, _, rfl, rfl⟩ := h; exact ⟨inferInstance, inferInstance⟩) | (obtain ⟨_, _, rfl, rfl, _⟩ := h; exact ⟨inferInstance, inferInstance⟩)), ?_⟩; rintro _ _ ⟨rfl, rfl⟩; refine RD.nm ?_))) | ((with_reducible show RH _ _ _ ⟨some 6, .alloc _, _, _, _, _⟩ _ _ _ _); refine RH.alloc rfl ?_; rintro _ _ ⟨b6, rfl, rfl⟩) | ((with_reducible show RH _ _ _ ⟨some 8, .alloc _, _, _, _, _⟩ _ _ _ _); refine RH.alloc rfl ?_; rintro _ _ ⟨b8, rfl, rfl⟩) | ((with_reducible show RH _ _ _ ⟨some 9, .alloc _, _, _, _, _⟩ _ _ _ _); refine RH.alloc rfl ?_; rintro _ _ ⟨b9, rfl, rfl⟩) | ((with_reducible show RH _ _ _ ⟨some 14, .alloc _, _, _, _, _⟩ _ _ _ _); refine RH.alloc rfl ?_; rintro _ _ ⟨b14, rfl, rfl⟩) | ((with_reducible show RH _ _ _ ⟨_, .call ⟨.value (.func 17), _, _⟩, _, _, _, _⟩ _ _ _ _); refine RH.cP Try.call17 ?_; refine ⟨_, toAlgebra_c (a) (by omega), ?_⟩; rintro _ _ ⟨s00, rfl, rfl⟩) | ((with_reducible show RH _ _ _ ⟨_, .call ⟨.value (.func 16), _, _⟩, _, _, _, _⟩ _ _ _ _); refine RH.cL Try.call16 ?_; apply Exists.intro; apply And.intro; (focus ((repeat (first | exact LVs.nil | (apply LVs.sl; (with_reducible repeat (first | exact Has.head | apply Has.tail)); exact inferInstance; exact rfl) | apply LVs.agg | apply LVs.refl)); done)); refine ⟨_, hspec, (by intro r H h; first | (obtain ⟨rfl, rfl⟩ := h; exact ⟨inferInstance, inferInstance⟩) | (obtain ⟨_, rfl, rfl⟩ := h; exact ⟨inferInstance, inferInstance⟩) | (obtain ⟨_, _, rfl, rfl⟩ := h; exact ⟨inferInstance, inferInstance⟩) | (obtain ⟨_, _, rfl, rfl, _⟩ := h; exact ⟨inferInstance, inferInstance⟩)), ?_⟩; rintro _ _ ⟨w0, rfl, rfl⟩; refine RL.nm ?_) | ((with_reducible show RH _ _ _ ⟨_, .call ⟨.value (.func 18), _, _⟩, _, _, _, _⟩ _ _ _ _); refine RH.cL Try.call18 ?_; apply Exists.intro; apply And.intro; (focus ((repeat (first | exact LVs.nil | (apply LVs.sl; (with_reducible repeat (first | exact Has.head | apply Has.tail)); exact inferInstance; exact rfl) | apply LVs.agg | apply LVs.refl)); done)); refine ⟨_, himpl, (by intro r H h; first | (obtain ⟨rfl, rfl⟩ := h; exact ⟨inferInstance, inferInstance⟩) | (obtain ⟨_, rfl, rfl⟩ := h; exact ⟨inferInstance, inferInstance⟩) | (obtain ⟨_, _, rfl, rfl⟩ := h; exact ⟨inferInstance, inferInstance⟩) | (obtain ⟨_, _, rfl, rfl, _⟩ := h; exact ⟨inferInstance, inferInstance⟩)), ?_⟩; rintro _ _ ⟨g0, rfl, rfl⟩; refine RL.nm ?_) | ((with_reducible show RH _ _ _ ⟨_, .call ⟨.value (.func 19), _, _⟩, _, _, _, _⟩ _ _ _ _); refine RH.cL Try.call19 ?_; apply Exists.intro; apply And.intro; (focus ((repeat (first | exact LVs.nil | (apply LVs.sl; (with_reducible repeat (first | exact Has.head | apply Has.tail)); exact inferInstance; exact rfl) | apply LVs.agg | apply LVs.refl)); done)); refine ⟨_, eqAlgebra_g (r0a, r0) (r0a, r0) (by (try dsimp only); first | omega | assumption), (by intro r H h; first | (obtain ⟨rfl, rfl⟩ := h; exact ⟨inferInstance, inferInstance⟩) | (obtain ⟨_, rfl, rfl⟩ := h; exact ⟨inferInstance, inferInstance⟩) | (obtain ⟨_, _, rfl, rfl⟩ := h; exact ⟨inferInstance, inferInstance⟩) | (obtain ⟨_, _, rfl, rfl, _⟩ := h; exact ⟨inferInstance, inferInstance⟩)), ?_⟩; rintro _ _ ⟨rfl, rfl⟩; refine RL.nm ?_) | ((with_reducible show RH _ _ _ ⟨_, .call ⟨.value (.func 20), _, _⟩, _, _, _, _⟩ _ _ _ _); refine RH.cW Try.call20 ?_; refine ⟨_, _, _, (by repeat (first | exact Pick.nil | (apply Pick.cons; (with_reducible repeat (first | exact Rem.head | apply Rem.tail))))), markAlgebra_x _ r0a r0 _ (by omega) (by omega), ?_⟩; rintro _ _ ⟨rfl, rfl⟩; refine RL.nm ?_) | ((with_reducible show RH _ _ _ ⟨_, .call ⟨.value (.func 21), _, _⟩, _, _, _, _⟩ _ _ _ _); refine RH.cL Try.call21 ?_; apply Exists.intro; apply And.intro; (focus ((repeat (first | exact LVs.nil | (apply LVs.sl; (with_reducible repeat (first | exact Has.head | apply Has.tail)); exact inferInstance; exact rfl) | apply LVs.agg | apply LVs.refl)); done)); refine ⟨_, heldAlgebra_x r0a r0 _ (by omega) (by omega), (by intro r H h; first | (obtain ⟨rfl, rfl⟩ := h; exact ⟨inferInstance, inferInstance⟩) | (obtain ⟨_, rfl, rfl⟩ := h; exact ⟨inferInstance, inferInstance⟩) | (obtain ⟨_, _, rfl, rfl⟩ := h; exact ⟨inferInstance, inferInstance⟩) | (obtain ⟨_, _, rfl, rfl, _⟩ := h; exact ⟨inferInstance, inferInstance⟩)), ?_⟩; rintro _ _ ⟨rfl, rfl⟩; refine RL.nm ?_) | ((with_reducible show RH _ _ _ ⟨_, .call ⟨.value (.func 20), _, _⟩, _, _, _, _⟩ _ _ _ _); refine RH.cW Try.call20 ?_; refine ⟨_, _, _, (by repeat (first | exact Pick.nil | (apply Pick.cons; (with_reducible repeat (first | exact Rem.head | apply Rem.tail))))), markAlgebra_s _ a _ (by omega) (by omega), ?_⟩; rintro _ _ ⟨y0, k0, rfl, rfl, hmA0, hmB0⟩; refine RL.nm ?_) | ((with_reducible show RH _ _ _ _ _ _ _ _); first | refine RH.val (hK := ?_) | refine RH.upd (hK := ?_)) | (with_reducible show RL _ _ _ (_ :: _) _ _ _; first | refine RL.guardYes rfl rfl rfl rfl ?_ | refine RL.guardNoS rfl rfl rfl rfl rfl rfl ?_ | refine RL.splitD rfl rfl rfl (fun h => ?_) (fun h => ?_) | refine RL.splitND rfl rfl rfl (fun h => ?_) (fun h => ?_)) | (with_reducible first | refine Run.seq ?_ | refine Run.region ?_ | refine Run.skip ?_ | refine Run.ret ?_) | (with_reducible show Run _ _ (.cond _ _ _) _ _ _; first | refine Run.condT rfl ?_ | refine Run.condF rfl ?_ | refine Run.condD rfl (fun h => ?_) (fun h => ?_) | refine Run.condND rfl (fun h => ?_) (fun h => ?_)) | (with_reducible first | refine seqN (K := Run _ _ _ _) ?_ | refine seqR ?_))
    all_goals first
      | (refine ⟨eA, _, [], resA, .ch .nil, ?_⟩; exact ⟨rfl, rfl⟩)
      | (exfalso; omega)
      | (exfalso; simp_all; done)
      | skip
theorem law_c (a : Int × (List (Int × (List Int)))) (k : Int) (g0 : (InR a.1) ∧ (a.2.length ≤ 9223372036854775807 ∧ ∀ y0 ∈ a.2, (InR y0.1) ∧ (y0.2.length ≤ 9223372036854775807 ∧ ∀ y1 ∈ y0.2, InR y1))) (g1 : InR k) :
    Spec Try.prog 3 [vagg [vint a.1, vsl 2 (fun y : Int × (List Int) => [vint y.1, vsl 1 (fun x : Int => [vint x]) y.2]) a.2], vint k] [] (fun r S' => r = vbool true ∧ S' = []) := by
  obtain ⟨o, hoo⟩ := free_ex a.1 a.2 k
  refine law_g a k (((falV a.1 a.2 k (genO (rankB a.1 a.2 k) o)).getD (0, []))).1 (((falV a.1 a.2 k (genO (rankB a.1 a.2 k) o)).getD (0, []))).2 ((falV a.1 a.2 k (genO (rankB a.1 a.2 k) o)).isSome) g0 g1 ?_
  intro hS_a
  exact ⟨specFal_c a.1 a.2 k o hoo (by omega) (opsLen_of hS_a), implFal_c a.1 a.2 k o hoo (by omega) (opsLen_of hS_a), Nat.le_trans (fal_small hoo (fun y : Int × List Int => y.2.length) (fun y => Nat.le_add_left _ _)) (by decide)⟩
end Go.Proofs.Ytejeeokjjbiadaa
