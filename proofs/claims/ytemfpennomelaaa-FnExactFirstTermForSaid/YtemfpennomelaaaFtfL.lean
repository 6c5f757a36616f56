/- The program's first term for a tuple: impl.FirstTermFor. Proved for this program; conditions: lists that fit memory. -/
import Derived.Test.YtemfpennomelaaaFtfR
namespace Go.Proofs.Ytemfpennomelaaa
open Go Go.Proofs
set_option linter.unusedVariables false
/-- a row of one's own is taken out, the others are left -/
theorem SEnt.onerowX {w : Sv} {t : List Int} {S : List HP} : SEnt (hrows [(w, t)] :: S) (hsl tInt (vsv w) t :: S) := fun c fs hs => by
  obtain ⟨f, gs, rfl, fss, rfl, h1⟩ := hs.head
  cases h1 with
  | cons hp hr =>
    cases hr
    obtain ⟨v, e, h3⟩ := hp
    have e2 : vsv w = v := by injection e
    subst e2
    exact ⟨_, SHf.perm (f' := _) hs (by simp) h3⟩
theorem SEnt.takerow {w : Sv} {t : List Int} {ps : PS} {S : List HP} (h : (w, t) ∈ ps) : SEnt (hrows ps :: S) (hsl tInt (vsv w) t :: S) :=
  (SEnt.subrows (List.singleton_sublist.2 h)).trans SEnt.onerowX
theorem firstTermsX_c (n : Int) (os : List (Int × List Int)) (m : Nat) (G L : List (List Int)) (ha : algB n os = true) (hm64 : m ≤ 64) (hG : ∀ t ∈ G, TupOk n m t) (hg6 : G.length ≤ 6) (hy : SpanYes n os m G L) (bs bm : Nat) :
    Spec Try.prog 31 [vptr bs 0, vsl 1 (fun t : List Int => [vsl 1 (fun x : Int => [vint x]) t]) G] [hcells bs [vint n, vsl 2 (fun y : Int × (List Int) => [vint y.1, vsl 1 (fun x : Int => [vint x]) y.2]) os, vint (m : Int), vsl 1 (fun t : List Int => [vsl 1 (fun x : Int => [vint x]) t]) L, vmap bm], hmapI bm (kvL L 0)]
      (fun r S' => ∃ (s : Sv) (V : List Sv) (ps : PS) (B : List (List Int)), r = vlit (vsv s) ∧ S' = [hsl tSv (vsv s) V, hrows ps] ∧ Asc V ps B ∧ V.length = L.length ∧ BestT n os m G L (bO L B)) :=
  (firstTerms_c n os m G L ha hm64 hG hg6 hy bs bm).mono fun r S' ⟨s, V, ps, B, h1, h2, h3, h4, h5⟩ => ⟨s, V, ps, B, h1, h2, h3, by rw [h3.len, h4], h5⟩
set_option maxRecDepth 10000 in
set_option maxHeartbeats 4000000 in
theorem implFtf_c (n : Int) (os : List (Int × List Int)) (k : Int) (G : List (List Int)) (t : List Int) (A : List Int) (o : Bool) (hF : FtIs n os k G t A o) (hol : os.length ≤ 4611686018427387904) (ho : OpsLen os) (hl : G.length ≤ 4398046511104) (hr : ∀ t ∈ G, t.length ≤ 4611686018427387904) (htl : t.length ≤ 4398046511104) :
    Spec Try.prog 10 [vagg [vint n, vsl 2 (fun y : Int × (List Int) => [vint y.1, vsl 1 (fun x : Int => [vint x]) y.2]) os], vint k, vsl 1 (fun t : List Int => [vsl 1 (fun x : Int => [vint x]) t]) G, vsl 1 (fun x : Int => [vint x]) t] [] (FtRes A o) := by
  have hgen := areGens_c n os k G hol ho hl hr
  cases hgs : gsOk n os k G with
  | false =>
    rw [hgs] at hgen
    obtain ⟨rfl, rfl⟩ := hF.uniq (.inl ⟨by rw [ftB, hgs]; rfl, rfl, rfl⟩)
    refine Spec.of_run2 (n := 66) Try.func10 rfl Try.results10 Try.ntmps10 rfl ?_
    repeat' (first | (with_reducible first | refine RL.done ?_ | refine RL.app0 ?_) | (with_reducible refine RL.wanted ?_ ?_; exact rfl) | ((with_reducible show RH _ _ _ ⟨some 4, .box _ _, _, _, _, _⟩ _ _ _ _); (refine RH.boxAgg rfl rfl ?_; rintro _ _ ⟨b4, rfl, rfl⟩)) | ((with_reducible show RH _ _ _ ⟨some 32, .buildSlice _ _ _, _, _, _, _⟩ _ _ _ _); refine RH.eff rfl rfl (EOpS.e (EOpS.slit (fun x : Int => [vint x]) _ (fun _ _ => rfl) (by repeat (first | exact Elts.nil | (apply Elts.cons; exact rfl; exact CellsOf.one))) rfl rfl)) ?_; rintro _ _ ⟨b32, rfl, rfl⟩) | ((with_reducible show RH _ _ _ ⟨_, .call ⟨.value (.func 27), _, _⟩, _, _, _, _⟩ _ _ _ _); refine RH.cP Try.call27 ?_; refine ⟨_, hgen, ?_⟩; rintro _ _ ⟨rfl, rfl⟩) | ((with_reducible show RH _ _ _ _ _ _ _ _); refine RH.val (hK := ?_)) | (with_reducible show RL _ _ _ (_ :: _) _ _ _; refine RL.guardNoS rfl rfl rfl rfl rfl rfl ?_) | (with_reducible first | refine Run.seq ?_ | refine Run.region ?_ | refine Run.ret ?_) | (with_reducible show Run _ _ (.cond _ _ _) _ _ _; refine Run.condT rfl ?_) | (with_reducible first | refine seqN (K := Run _ _ _ _) ?_ | refine seqR ?_))
    all_goals first
      | (exfalso; simp_all; done)
      | (refine ⟨eA, _, [hsl tInt (vsv (some ⟨b32, 0, none⟩, 0, 0)) []], resA, ?_, ?_⟩
         · exact (SEnt.packNil tInt rfl).trans (SEnt.ch (.cons .head rfl .nil))
         · exact ⟨_, rfl, rfl⟩)
  | true =>
    rw [hgs] at hgen
    obtain ⟨ha, hk, h20, ht⟩ := gsOk_at hgs
    obtain ⟨hn1, hn8, ho4, hops⟩ := algB_at ha
    have hmost := mostV_le os
    obtain ⟨k2, rfl⟩ : ∃ k2 : Nat, k = k2 := ⟨k.toNat, by omega⟩
    rw [Int.toNat_natCast] at ht
    have htup := tupB_iff.1 ht
    have hone : ∀ u ∈ [t], u.length ≤ 4611686018427387904 := fun u hu => by rw [List.mem_singleton] at hu; subst hu; omega
    cases hg : ftB n os k2 G t with
    | false =>
      obtain ⟨rfl, rfl⟩ := hF.uniq (.inl ⟨hg, rfl, rfl⟩)
      rw [ftB, hgs] at hg
      have ht1 : tupB n k2 [t] = (decide ((t.length : Int) = k2) && elB n t) := by
        simp only [tupB, List.all_cons, List.all_nil, Bool.and_true]
        rw [decide_eq_decide.2 (show t.length = k2 ↔ (t.length : Int) = k2 by omega)]
      refine Spec.of_run2 (n := 66) Try.func10 rfl Try.results10 Try.ntmps10 rfl ?_
      repeat' (first | (with_reducible first | refine RL.done ?_ | refine RL.app0 ?_) | (with_reducible refine RL.wanted ?_ ?_; exact rfl) | ((with_reducible show RH _ _ _ ⟨some 28, .buildSlice _ _ _, _, _, _, _⟩ _ _ _ _); refine RH.eff rfl rfl (EOpS.e (EOpS.slit (fun t : List Int => [vsl 1 (fun x : Int => [vint x]) t]) [t] (fun _ _ => rfl) (.cons rfl .one .nil) rfl rfl)) ?_; rintro _ _ ⟨b28, rfl, rfl⟩; refine RL.frzA rfl ?_) | ((with_reducible show RH _ _ _ ⟨some 4, .box _ _, _, _, _, _⟩ _ _ _ _); (refine RH.boxAgg rfl rfl ?_; rintro _ _ ⟨b4, rfl, rfl⟩)) | ((with_reducible show RH _ _ _ ⟨some 32, .buildSlice _ _ _, _, _, _, _⟩ _ _ _ _); refine RH.eff rfl rfl (EOpS.e (EOpS.slit (fun x : Int => [vint x]) _ (fun _ _ => rfl) (by repeat (first | exact Elts.nil | (apply Elts.cons; exact rfl; exact CellsOf.one))) rfl rfl)) ?_; rintro _ _ ⟨b32, rfl, rfl⟩) | ((with_reducible show RH _ _ _ ⟨_, .call ⟨.value (.func 27), _, _⟩, _, _, _, _⟩ _ _ _ _); refine RH.cP Try.call27 ?_; refine ⟨_, hgen, ?_⟩; rintro _ _ ⟨rfl, rfl⟩) | ((with_reducible show RH _ _ _ ⟨_, .call ⟨.value (.func 28), _, _⟩, _, _, _, _⟩ _ _ _ _); refine RH.cP Try.call28 ?_; refine ⟨_, areTuples_c n os k2 [t] (by simp) hone, ?_⟩; rintro _ _ ⟨rfl, rfl⟩) | ((with_reducible show RH _ _ _ _ _ _ _ _); refine RH.val (hK := ?_)) | (with_reducible show RL _ _ _ (_ :: _) _ _ _; first | refine RL.guardYes rfl rfl rfl rfl ?_ | refine RL.guardNoS rfl rfl rfl rfl rfl rfl ?_ | refine RL.splitD rfl rfl rfl (fun h => ?_) (fun h => ?_)) | (with_reducible first | refine Run.seq ?_ | refine Run.region ?_ | refine Run.skip ?_ | refine Run.ret ?_) | (with_reducible show Run _ _ (.cond _ _ _) _ _ _; first | refine Run.condT rfl ?_ | refine Run.condNB rfl (fun h => ?_) (fun h => ?_)) | (with_reducible first | refine seqN (K := Run _ _ _ _) ?_ | refine seqR ?_))
      all_goals first
        | (exfalso; simp_all; done)
        | (exfalso; simp_all; omega)
        | (refine ⟨eA, _, [hsl tInt (vsv (some ⟨b32, 0, none⟩, 0, 0)) []], resA, ?_, ?_⟩
           · exact (SEnt.packNil tInt rfl).trans (SEnt.ch (.cons .head rfl .nil))
           · exact ⟨_, rfl, rfl⟩)
    | true =>
      obtain ⟨_, h6, htk, hte⟩ := ftB_at hg
      have htk : t.length = k2 := by omega
      have ht1 : tupB n k2 [t] = true := by
        simp only [tupB, List.all_cons, List.all_nil, Bool.and_true, decide_eq_true htk, hte]
      have har := areTuples_c n os k2 [t] (by simp) hone
      rw [ht1] at har
      refine Spec.of_run2 (n := 66) Try.func10 rfl Try.results10 Try.ntmps10 rfl ?_
      repeat' (first | (with_reducible first | refine RL.done ?_ | refine RL.app0 ?_ | refine RL.app3 ?_) | (with_reducible refine RL.wanted ?_ ?_; exact rfl) | ((with_reducible show RH _ _ _ ⟨some 28, .buildSlice _ _ _, _, _, _, _⟩ _ _ _ _); refine RH.eff rfl rfl (EOpS.e (EOpS.slit (fun t : List Int => [vsl 1 (fun x : Int => [vint x]) t]) [t] (fun _ _ => rfl) (.cons rfl .one .nil) rfl rfl)) ?_; rintro _ _ ⟨b28, rfl, rfl⟩; refine RL.frzA rfl ?_) | ((with_reducible show RH _ _ _ ⟨some 4, .box _ _, _, _, _, _⟩ _ _ _ _); (refine RH.boxAgg rfl rfl ?_; rintro _ _ ⟨b4, rfl, rfl⟩)) | ((with_reducible show RH _ _ _ ⟨some 32, .buildSlice _ _ _, _, _, _, _⟩ _ _ _ _); refine RH.eff rfl rfl (EOpS.e (EOpS.slit (fun x : Int => [vint x]) _ (fun _ _ => rfl) (by repeat (first | exact Elts.nil | (apply Elts.cons; exact rfl; exact CellsOf.one))) rfl rfl)) ?_; rintro _ _ ⟨b32, rfl, rfl⟩) | ((with_reducible show RH _ _ _ ⟨some 42, .buildSlice _ _ _, _, _, _, _⟩ _ _ _ _); refine RH.eff rfl rfl (EOpS.e (EOpS.slit (fun x : Int => [vint x]) _ (fun _ _ => rfl) (by repeat (first | exact Elts.nil | (apply Elts.cons; exact rfl; exact CellsOf.one))) rfl rfl)) ?_; rintro _ _ ⟨b42, rfl, rfl⟩) | ((with_reducible show RH _ _ _ ⟨_, .call ⟨.value (.func 27), _, _⟩, _, _, _, _⟩ _ _ _ _); refine RH.cP Try.call27 ?_; refine ⟨_, hgen, ?_⟩; rintro _ _ ⟨rfl, rfl⟩) | ((with_reducible show RH _ _ _ ⟨_, .call ⟨.value (.func 28), _, _⟩, _, _, _, _⟩ _ _ _ _); refine RH.cP Try.call28 ?_; refine ⟨_, har, ?_⟩; rintro _ _ ⟨rfl, rfl⟩) | ((with_reducible show RH _ _ _ ⟨_, .call ⟨.value (.func 29), _, _⟩, _, _, _, _⟩ _ _ _ _); refine RH.cP Try.call29 ?_; refine ⟨_, spanOf_c n os k2 G ha (by omega) htup (by omega), ?_⟩; rintro _ _ (⟨L, b, bm, s, rfl, rfl, hyes⟩ | ⟨rfl, rfl, hno⟩)) | ((with_reducible show RH _ _ _ _ _ _ _ _); refine RH.val (hK := ?_)) | (with_reducible show RL _ _ _ (_ :: _) _ _ _; first | refine RL.guardYes rfl rfl rfl rfl ?_ | refine RL.guardNoS rfl rfl rfl rfl rfl rfl ?_ | refine RL.splitD rfl rfl rfl (fun h => ?_) (fun h => ?_)) | (with_reducible first | refine Run.seq ?_ | refine Run.region ?_ | refine Run.skip ?_ | refine Run.ret ?_) | (with_reducible show Run _ _ (.cond _ _ _) _ _ _; first | refine Run.condT rfl ?_ | refine Run.condF rfl ?_) | (with_reducible first | refine seqN (K := Run _ _ _ _) ?_ | refine seqR ?_))
      all_goals first
        | (exfalso; omega)
        | (exfalso; simp_all; done)
        | (obtain ⟨rfl, rfl⟩ := hF.uniq (.inr (.inl ⟨hg, .inl (by rw [Int.toNat_natCast]; exact hno), rfl, rfl⟩))
           refine ⟨eA, _, [hsl tInt (vsv (some ⟨b42, 0, none⟩, 0, 0)) []], resA, ?_, ?_⟩
           · exact (SEnt.packNil tInt rfl).trans (SEnt.ch (.cons .head rfl .nil))
           · exact ⟨_, rfl, rfl⟩)
        | skip
      obtain ⟨hnd, hcl, hLm⟩ := hyes
      have hyes : SpanYes n os k2 G L := ⟨hnd, hcl, hLm⟩
      have hLt : ∀ t ∈ L, TupOk n k2 t := fun t ht => ((hcl t).1 ht).ok ha (by omega) htup
      have hby : ∀ t ∈ L, Byt t := fun t ht => tup_byt hn8 (hLt t ht)
      have hkv : KvIx L (kvL L 0) := kvL_ix hnd hby
      have hkm : keyS t ∈ (kvL L 0).map Prod.fst ↔ t ∈ L := by rw [kvL_keys]; exact keyS_mem (tup_byt hn8 ⟨htk, hte⟩) hby
      refine Run.frzCell (qs := [vint n, vsl 2 (fun y : Int × (List Int) => [vint y.1, vsl 1 (fun x : Int => [vint x]) y.2]) os, vint (k2 : Int), vsl 1 (fun t : List Int => [vsl 1 (fun x : Int => [vint x]) t]) L, vmap bm]) (.tail .head) .head (.keep (.keep (.keep (.hit (.keep .nil))))) ?_
      rcases Decidable.em (t ∈ L) with hin | hin
      · have hkg := hkv _ hin
        have hp := List.idxOf_lt_length_of_mem hin
        have hpe := List.getElem_idxOf hp
        have hpq : (kvGet (kvL L 0) (keyS t)).toNat = L.idxOf t := by omega
        rw [← hpq] at hp
        have hpe2 : L[(kvGet (kvL L 0) (keyS t)).toNat]'hp = t := by simp only [hpq]; exact hpe
        repeat' (first | (with_reducible first | refine RL.done ?_ | refine RD.app0 ?_) | (with_reducible refine RL.wanted ?_ ?_; exact rfl) | ((with_reducible show RH _ _ _ ⟨some 61, .load 26 _, _, _, _, _⟩ _ _ _ _); refine RH.value rfl rfl (VOp.loadHS (xs := V) rfl (by with_reducible repeat (first | exact Has.head | apply Has.tail)) (by omega)) ?_) | ((with_reducible show Run _ _ (.region 6 _ true) _ _ _); refine Run.regionD (fun i => false) rfl ?_; change RD _ _ _ _ _ _ 12 (dm 12 0) _ _) | ((with_reducible show RD _ _ 6 _ _ _ _ _ _ _); first | ((with_reducible show RD _ _ _ _ _ _ _ (dm 12 0) _ _); refine RD.tk 0 (dm 12 4046) (dm 12 1) (hK := ?_)) | ((with_reducible show RD _ _ _ _ _ _ _ (dm 12 1) _ _); refine RD.tk 1 (dm 12 4044) (dm 12 3) (hK := ?_)) | ((with_reducible show RD _ _ _ _ _ _ _ (dm 12 3) _ _); refine RD.tk 2 (dm 12 4040) (dm 12 7) (hK := ?_)) | ((with_reducible show RD _ _ _ _ _ _ _ (dm 12 7) _ _); refine RD.tk 3 (dm 12 4032) (dm 12 15) (hK := ?_)) | ((with_reducible show RD _ _ _ _ _ _ _ (dm 12 15) _ _); refine RD.tk 4 (dm 12 4064) (dm 12 31) (hK := ?_)) | ((with_reducible show RD _ _ _ _ _ _ _ (dm 12 31) _ _); refine RD.a1 5 ?_) | ((with_reducible show RD _ _ _ _ _ _ _ (dm 12 63) _ _); refine RD.tk 6 (dm 12 3968) (dm 12 127) (hK := ?_)) | ((with_reducible show RD _ _ _ _ _ _ _ (dm 12 127) _ _); refine RD.tk 7 (dm 12 3840) (dm 12 255) (hK := ?_)) | ((with_reducible show RD _ _ _ _ _ _ _ (dm 12 255) _ _); refine RD.tk 8 (dm 12 3072) (dm 12 511) (hK := ?_)) | ((with_reducible show RD _ _ _ _ _ _ _ (dm 12 511) _ _); refine RD.tk 9 (dm 12 2048) (dm 12 1023) (hK := ?_)) | ((with_reducible show RD _ _ _ _ _ _ _ (dm 12 1023) _ _); refine RD.tk 10 (dm 12 2048) (dm 12 2047) (hK := ?_)) | ((with_reducible show RD _ _ _ _ _ _ _ (dm 12 2047) _ _); refine RD.tk 11 (dm 12 0) (dm 12 4095) (hK := ?_)) | ((with_reducible show RD _ _ _ _ _ _ 0 _ _ _); refine RD.done (by kernel_rfl) ?_)) | ((with_reducible show RO _ _ 6 _ _ _ _ _ _ _ _); ((with_reducible show RO _ _ _ _ _ _ _ (dm 12 31) 5 _ _); (refine RO.cP (dm 12 63) Try.call30 ?_; refine ⟨_, keyOf_c t (by omega), ?_⟩; rintro _ _ ⟨rfl, rfl⟩))) | ((with_reducible show RH _ _ _ ⟨some 55, .buildSlice _ _ _, _, _, _, _⟩ _ _ _ _); refine RH.eff rfl rfl (EOpS.e (EOpS.slit (fun x : Int => [vint x]) _ (fun _ _ => rfl) (by repeat (first | exact Elts.nil | (apply Elts.cons; exact rfl; exact CellsOf.one))) rfl rfl)) ?_; rintro _ _ ⟨b55, rfl, rfl⟩) | ((with_reducible show RH _ _ _ ⟨some 64, .buildSlice _ _ _, _, _, _, _⟩ _ _ _ _); refine RH.eff rfl rfl (EOpS.e (EOpS.slit (fun x : Int => [vint x]) _ (fun _ _ => rfl) (by repeat (first | exact Elts.nil | (apply Elts.cons; exact rfl; exact CellsOf.one))) rfl rfl)) ?_; rintro _ _ ⟨b64, rfl, rfl⟩) | ((with_reducible show RH _ _ _ ⟨_, .call ⟨.value (.func 31), _, _⟩, _, _, _, _⟩ _ _ _ _); refine RH.cW Try.call31 ?_; refine ⟨_, _, _, (by repeat (first | exact Pick.nil | (apply Pick.cons; (with_reducible repeat (first | exact Rem.head | apply Rem.tail))))), firstTermsX_c n os k2 G L ha (by omega) htup h6 hyes b bm, ?_⟩; rintro _ _ ⟨s58, V, ps, B, rfl, rfl, hA, hVl, hbest⟩; refine RL.nm ?_) | ((with_reducible show RH _ _ _ _ _ _ _ _); refine RH.val (hK := ?_)) | (with_reducible first | refine Run.seq ?_ | refine Run.region ?_ | refine Run.skip ?_ | refine Run.ret ?_) | (with_reducible show Run _ _ (.cond _ _ _) _ _ _; first | refine Run.condND rfl (fun h => ?_) (fun h => ?_) | refine Run.cond rfl (fun h => ?_) (fun h => ?_)) | (with_reducible first | refine seqN (K := Run _ _ _ _) ?_ | refine seqR ?_))
        all_goals first
          | (exfalso; omega)
          | (exfalso; simp_all; done)
          | skip
        all_goals
          have hpV : (kvGet (kvL L 0) (keyS t)).toNat < V.length := by omega
          have hnone := hA.isNone hpV
          have e : bO L B t = B.getD (kvGet (kvL L 0) (keyS t)).toNat [] := by
            have h1 := bO_at (L := L) (out := B) hnd hp
            rwa [hpe2] at h1
          obtain ⟨rfl, rfl⟩ := hF.uniq (.inr (.inr ⟨hg, L, bO L B, by rw [Int.toNat_natCast]; exact hcl, by rw [Int.toNat_natCast]; exact hyes, hin, by rw [Int.toNat_natCast]; exact hbest, rfl, rfl⟩))
          rw [e]
        all_goals first
          | (have e0 : B.getD (kvGet (kvL L 0) (keyS t)).toNat [] = [] := of_decide_eq_true (hnone.symm.trans (show V[(kvGet (kvL L 0) (keyS t)).toNat].1.isNone = true by assumption))
             rw [e0]
             refine ⟨eA, _, [hsl tInt (vsv (some ⟨b64, 0, none⟩, 0, 0)) []], resA, ?_, ?_⟩
             · exact (SEnt.packNil tInt rfl).trans (SEnt.ch (.cons .head rfl .nil))
             · exact ⟨_, rfl, rfl⟩)
          | (have e0 : B.getD (kvGet (kvL L 0) (keyS t)).toNat [] ≠ [] := of_decide_eq_false (hnone.symm.trans (show V[(kvGet (kvL L 0) (keyS t)).toNat].1.isNone = false by assumption))
             obtain ⟨hm, _, _⟩ := hA.yes _ hpV e0
             rw [decide_eq_true e0]
             refine ⟨eA, _, [hsl tInt (vsv V[(kvGet (kvL L 0) (keyS t)).toNat]) (B.getD (kvGet (kvL L 0) (keyS t)).toNat [])], resA, ?_, ?_⟩
             · exact (SEnt.pick (B := [hrows ps]) (.cons (.tail .head) .nil)).trans ((SEnt.takerow hm).trans (SEnt.ch (.cons .head rfl .nil)))
             · exact ⟨_, rfl, rfl⟩)
      · repeat' (first | (with_reducible first | refine RL.done ?_ | refine RD.app0 ?_) | (with_reducible refine RL.wanted ?_ ?_; exact rfl) | ((with_reducible show Run _ _ (.region 6 _ true) _ _ _); refine Run.regionD (fun i => false) rfl ?_; change RD _ _ _ _ _ _ 12 (dm 12 0) _ _) | ((with_reducible show RD _ _ 6 _ _ _ _ _ _ _); first | ((with_reducible show RD _ _ _ _ _ _ _ (dm 12 0) _ _); refine RD.tk 0 (dm 12 4046) (dm 12 1) (hK := ?_)) | ((with_reducible show RD _ _ _ _ _ _ _ (dm 12 1) _ _); refine RD.tk 1 (dm 12 4044) (dm 12 3) (hK := ?_)) | ((with_reducible show RD _ _ _ _ _ _ _ (dm 12 3) _ _); refine RD.tk 2 (dm 12 4040) (dm 12 7) (hK := ?_)) | ((with_reducible show RD _ _ _ _ _ _ _ (dm 12 7) _ _); refine RD.tk 3 (dm 12 4032) (dm 12 15) (hK := ?_)) | ((with_reducible show RD _ _ _ _ _ _ _ (dm 12 15) _ _); refine RD.tk 4 (dm 12 4064) (dm 12 31) (hK := ?_)) | ((with_reducible show RD _ _ _ _ _ _ _ (dm 12 31) _ _); refine RD.a1 5 ?_) | ((with_reducible show RD _ _ _ _ _ _ _ (dm 12 63) _ _); refine RD.tk 6 (dm 12 3968) (dm 12 127) (hK := ?_)) | ((with_reducible show RD _ _ _ _ _ _ _ (dm 12 127) _ _); refine RD.tk 7 (dm 12 3840) (dm 12 255) (hK := ?_)) | ((with_reducible show RD _ _ _ _ _ _ _ (dm 12 255) _ _); refine RD.tk 8 (dm 12 3072) (dm 12 511) (hK := ?_)) | ((with_reducible show RD _ _ _ _ _ _ _ (dm 12 511) _ _); refine RD.tk 9 (dm 12 2048) (dm 12 1023) (hK := ?_)) | ((with_reducible show RD _ _ _ _ _ _ _ (dm 12 1023) _ _); refine RD.tk 10 (dm 12 2048) (dm 12 2047) (hK := ?_)) | ((with_reducible show RD _ _ _ _ _ _ _ (dm 12 2047) _ _); refine RD.tk 11 (dm 12 0) (dm 12 4095) (hK := ?_)) | ((with_reducible show RD _ _ _ _ _ _ 0 _ _ _); refine RD.done (by kernel_rfl) ?_)) | ((with_reducible show RO _ _ 6 _ _ _ _ _ _ _ _); ((with_reducible show RO _ _ _ _ _ _ _ (dm 12 31) 5 _ _); (refine RO.cP (dm 12 63) Try.call30 ?_; refine ⟨_, keyOf_c t (by omega), ?_⟩; rintro _ _ ⟨rfl, rfl⟩))) | ((with_reducible show RH _ _ _ ⟨some 55, .buildSlice _ _ _, _, _, _, _⟩ _ _ _ _); refine RH.eff rfl rfl (EOpS.e (EOpS.slit (fun x : Int => [vint x]) _ (fun _ _ => rfl) (by repeat (first | exact Elts.nil | (apply Elts.cons; exact rfl; exact CellsOf.one))) rfl rfl)) ?_; rintro _ _ ⟨b55, rfl, rfl⟩) | ((with_reducible show RH _ _ _ ⟨_, .call ⟨.value (.func 31), _, _⟩, _, _, _, _⟩ _ _ _ _); refine RH.cW Try.call31 ?_; refine ⟨_, _, _, (by repeat (first | exact Pick.nil | (apply Pick.cons; (with_reducible repeat (first | exact Rem.head | apply Rem.tail))))), firstTermsX_c n os k2 G L ha (by omega) htup h6 hyes b bm, ?_⟩; rintro _ _ ⟨s58, V, ps, B, rfl, rfl, hA, hVl, hbest⟩; refine RL.nm ?_) | ((with_reducible show RH _ _ _ _ _ _ _ _); refine RH.val (hK := ?_)) | (with_reducible first | refine Run.seq ?_ | refine Run.region ?_ | refine Run.skip ?_ | refine Run.ret ?_) | (with_reducible show Run _ _ (.cond _ _ _) _ _ _; refine Run.condND rfl (fun h => ?_) (fun h => ?_)) | (with_reducible first | refine seqN (K := Run _ _ _ _) ?_ | refine seqR ?_))
        all_goals first
          | (exfalso; simp_all; done)
          | (obtain ⟨rfl, rfl⟩ := hF.uniq (.inr (.inl ⟨hg, .inr (by rw [Int.toNat_natCast]; exact fun h => hin ((hcl t).2 h)), rfl, rfl⟩))
             refine ⟨eA, _, [hsl tInt (vsv (some ⟨b55, 0, none⟩, 0, 0)) []], resA, ?_, ?_⟩
             · exact (SEnt.packNil tInt rfl).trans (SEnt.ch (.cons .head rfl .nil))
             · exact ⟨_, rfl, rfl⟩)
end Go.Proofs.Ytemfpennomelaaa
