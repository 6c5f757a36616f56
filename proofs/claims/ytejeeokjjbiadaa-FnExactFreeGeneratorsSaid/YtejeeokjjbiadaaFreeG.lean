/- The elements of the variables, the sizes of the free algebras: spec and impl: the same answer. Proved for this program; conditions: lengths below 2^62. -/
import Derived.Test.YtejeeokjjbiadaaFree
namespace Go.Proofs.Ytejeeokjjbiadaa
open Go Go.Proofs
set_option linter.unusedVariables false
/-- the places of the first variables -/
def plTo (n : Int) (k : Nat) (X : List (List Int)) (m : Nat) : List Int := (List.range m).map fun i => (placeOf X (genRow n k i) : Int)
theorem plTo_succ (n : Int) (k : Nat) (X : List (List Int)) (m : Nat) : plTo n k X (m + 1) = plTo n k X m ++ [(placeOf X (genRow n k m) : Int)] := by simp [plTo, List.range_succ]
theorem plTo_length (n : Int) (k : Nat) (X : List (List Int)) (m : Nat) : (plTo n k X m).length = m := by simp [plTo]
theorem gens_at {n : Int} {k m : Nat} (h : m < (gensF n k).length) : (gensF n k)[m] = genRow n k m := by simp [gensF, gensTo]
abbrev LiRes (o : Option (List Int)) (r : VP) (S' : List HP) : Prop := ∃ s : Sv, r = vtup [vlit (vsv s), vbool o.isSome] ∧ S' = [hsl tInt (vsv s) (o.getD [])]
def plV (n : Int) (k : Int) (o : Option (List (List Int))) : Option (List Int) := o.map fun X => plTo n k.toNat X k.toNat
set_option maxRecDepth 10000 in
set_option maxHeartbeats 2000000 in
theorem l11Places_c (n : Int) (os : List (Int × List Int)) (k2 : Nat) (X : List (List Int)) (hg : rankB n os (k2 : Int) = true) (hF : FreeOk n os (k2 : Int) X) :
    Spec Try.prog 97 [vagg [vint n, vsl 2 (fun y : Int × (List Int) => [vint y.1, vsl 1 (fun x : Int => [vint x]) y.2]) os], vint (k2 : Int), vsl 1 (fun t : List Int => [vsl 1 (fun x : Int => [vint x]) t]) X] [] (fun r S' => ∃ s : Sv, r = vlit (vsv s) ∧ S' = [hsl tInt (vsv s) (plTo n k2 X k2)]) := by
  obtain ⟨ha, hk, hp⟩ := rankB_at hg
  obtain ⟨hfl, hf1, hf64⟩ := fLen_at hg
  rw [Int.toNat_natCast] at hfl hf1 hf64
  have hfew := hF.few
  have hgl := gensF_length n k2
  refine Spec.of_run2 (n := 35) Try.func97 rfl Try.results97 Try.ntmps97 rfl ?_
  repeat' (first | (with_reducible refine RL.done ?_) | (with_reducible refine RL.wanted ?_ ?_; exact rfl) | ((with_reducible show RH _ _ _ ⟨some 3, .box _ _, _, _, _, _⟩ _ _ _ _); (refine RH.boxAgg rfl rfl ?_; rintro _ _ ⟨b3, rfl, rfl⟩)) | ((with_reducible show RH _ _ _ ⟨some 12, .buildSlice _ _ _, _, _, _, _⟩ _ _ _ _); refine RH.eff rfl rfl (EOpS.e (EOpS.slit (fun x : Int => [vint x]) _ (fun _ _ => rfl) (by repeat (first | exact Elts.nil | (apply Elts.cons; exact rfl; exact CellsOf.one))) rfl rfl)) ?_; rintro _ _ ⟨b12, rfl, rfl⟩) | ((with_reducible show RH _ _ _ ⟨_, .call ⟨.value (.func 152), _, _⟩, _, _, _, _⟩ _ _ _ _); refine RH.cP Try.call152 ?_; refine ⟨_, l11Gens_c n os k2 hg, ?_⟩; rintro _ _ ⟨s15, rfl, rfl⟩; refine RL.app1 ?_; refine RL.frzS ?_) | ((with_reducible show RH _ _ _ _ _ _ _ _); refine RH.val (hK := ?_)) | (with_reducible first | refine Run.seq ?_ | refine Run.region ?_ | refine Run.block ?_) | (with_reducible refine seqN (K := Run _ _ _ _) ?_))
  refine Run.sent (T := [hsl tInt (vsv (some ⟨b12, 0, none⟩, 0, 0)) [], hcells b3 [vint n, vsl 2 (fun y : Int × (List Int) => [vint y.1, vsl 1 (fun x : Int => [vint x]) y.2]) os]]) (SEnt.packNil tInt rfl) ?_
  refine Run.loop (α := Nat × Sv) (fun z => [(1, vint (k2 : Int)), (2, vsl 1 (fun t : List Int => [vsl 1 (fun x : Int => [vint x]) t]) X), (7, vlit (vsv z.2)), (8, vsl 1 (fun t : List Int => [vsl 1 (fun x : Int => [vint x]) t]) (gensF n k2)), (9, vint (z.1 : Int))])
    (fun z => [hsl tInt (vsv z.2) (plTo n k2 X z.1)]) (fun z => z.1 ≤ k2) (fun z => k2 - z.1) (0, (some ⟨b12, 0, none⟩, 0, 0)) (Nat.zero_le _) (Ent.of slA (.cons .head rfl .nil)) ?_
  rintro ⟨m, s⟩ hm
  dsimp only at hm ⊢
  have hpl := plTo_length n k2 X m
  rcases Nat.lt_or_eq_of_le hm with h9 | h9
  · have hrl : ((gensF n k2)[m]'(by omega)).length = fLen n k2 := by rw [gens_at, genRow_length]
    have hXg : ∀ u ∈ X, u.length = ((gensF n k2)[m]'(by omega)).length := fun u hu => by rw [hrl]; exact (hF.tup u hu).1
    have hd := plTo_succ n k2 X m
    rw [← gens_at (show m < (gensF n k2).length by omega)] at hd
    repeat' (first | (with_reducible first | refine RL.done ?_ | refine RL.app0 ?_) | (with_reducible refine RL.wanted ?_ ?_; exact rfl) | ((with_reducible show RH _ _ _ ⟨some 32, .buildSlice _ _ _, _, _, _, _⟩ _ _ _ _); refine RH.eff rfl rfl (EOpS.e (EOpS.slit (fun x : Int => [vint x]) _ (fun _ _ => rfl) (by repeat (first | exact Elts.nil | (apply Elts.cons; exact rfl; exact CellsOf.one))) rfl rfl)) ?_; rintro _ _ ⟨b32, rfl, rfl⟩) | ((with_reducible show RH _ _ _ ⟨_, .call ⟨.value (.func 86), _, _⟩, _, _, _, _⟩ _ _ _ _); refine RH.cP Try.call86 ?_; refine ⟨_, l8Find_c X _ (by omega) (by omega) hXg hF.srt, ?_⟩; rintro _ _ ⟨rfl, rfl⟩) | ((with_reducible show RH _ _ _ ⟨_, .call ⟨.builtin .append, _, _⟩, _, _, _, _⟩ _ _ _ _); (refine RH.appI rfl rfl rfl (by repeat (first | exact Pick.nil | (apply Pick.cons; (with_reducible repeat (first | exact Rem.head | apply Rem.tail))))) (by first | omega | (simp; omega)) (by first | omega | (simp; omega)) ?_); rintro _ _ ⟨s, rfl, rfl⟩) | ((with_reducible show RH _ _ _ _ _ _ _ _); refine RH.val (hK := ?_)) | (with_reducible first | refine Run.seq ?_ | refine Run.region ?_ | refine Run.block ?_ | refine Run.skip ?_ | refine Run.exit ?_ | refine Run.ret ?_) | (with_reducible show Run _ _ (.cond _ _ _) _ _ _; refine Run.condD rfl (fun h => ?_) (fun h => ?_)) | (with_reducible first | refine seqN (K := Run _ _ _ _) ?_ | refine seqE ?_ | refine blockN ?_ | refine blockE ?_))
    all_goals first
      | (exfalso; omega)
      | (with_reducible refine seqN ?_
         exact ⟨(m + 1, _), by dsimp only; omega, by dsimp only; omega, Ent.of (by dsimp only; exact slA) (by dsimp only; rw [hd]; exact chA)⟩)
  · subst h9
    repeat' (first | (with_reducible refine RL.done ?_) | (with_reducible refine RL.wanted ?_ ?_; exact rfl) | ((with_reducible show RH _ _ _ _ _ _ _ _); refine RH.val (hK := ?_)) | (with_reducible first | refine Run.seq ?_ | refine Run.region ?_ | refine Run.block ?_ | refine Run.skip ?_ | refine Run.exit ?_ | refine Run.ret ?_) | (with_reducible show Run _ _ (.cond _ _ _) _ _ _; refine Run.condD rfl (fun h => ?_) (fun h => ?_)) | (with_reducible first | refine seqN (K := Run _ _ _ _) ?_ | refine seqE ?_ | refine blockE ?_))
    all_goals first
      | (exfalso; omega)
      | (refine ⟨eA, _, [hsl tInt (vsv s) (plTo n m X m)], resA, ?_, ?_⟩
         · exact SEnt.ch chA
         · exact ⟨s, rfl, rfl⟩)
set_option maxRecDepth 10000 in
set_option maxHeartbeats 1000000 in
theorem specGens_c (n : Int) (os : List (Int × List Int)) (k : Int) (o : Option (List (List Int))) (hoo : FreeIs n os k o) (hol : os.length ≤ 4611686018427387904) (ho : OpsLen os) :
    Spec Try.prog 35 [vagg [vint n, vsl 2 (fun y : Int × (List Int) => [vint y.1, vsl 1 (fun x : Int => [vint x]) y.2]) os], vint k] [] (LiRes (plV n k (genO (rankB n os k) o))) := by
  cases hO : genO (rankB n os k) o with
  | none =>
    refine Spec.of_run2 (n := 21) Try.func35 rfl Try.results35 Try.ntmps35 rfl ?_
    repeat' (first | (with_reducible first | refine RL.done ?_ | refine RL.app1 ?_) | (with_reducible refine RL.wanted ?_ ?_; exact rfl) | ((with_reducible show RH _ _ _ ⟨some 2, .box _ _, _, _, _, _⟩ _ _ _ _); (refine RH.boxAgg rfl rfl ?_; rintro _ _ ⟨b2, rfl, rfl⟩)) | ((with_reducible show RH _ _ _ ⟨some 16, .buildSlice _ _ _, _, _, _, _⟩ _ _ _ _); refine RH.eff rfl rfl (EOpS.e (EOpS.slit (fun x : Int => [vint x]) _ (fun _ _ => rfl) (by repeat (first | exact Elts.nil | (apply Elts.cons; exact rfl; exact CellsOf.one))) rfl rfl)) ?_; rintro _ _ ⟨b16, rfl, rfl⟩) | ((with_reducible show RH _ _ _ ⟨_, .call ⟨.value (.func 77), _, _⟩, _, _, _, _⟩ _ _ _ _); refine RH.cP Try.call77 ?_; refine ⟨_, freeS_no hoo hol ho hO, ?_⟩; rintro _ _ ⟨s8, rfl, rfl⟩) | ((with_reducible show RH _ _ _ _ _ _ _ _); refine RH.val (hK := ?_)) | (with_reducible first | refine Run.seq ?_ | refine Run.region ?_ | refine Run.ret ?_) | (with_reducible show Run _ _ (.cond _ _ _) _ _ _; refine Run.condT rfl ?_) | (with_reducible first | refine seqN (K := Run _ _ _ _) ?_ | refine seqR ?_))
    all_goals (refine ⟨eA, _, [hsl tInt (vsv (some ⟨b16, 0, none⟩, 0, 0)) []], resA, ?_, ?_⟩
               · exact (SEnt.packNil tInt rfl).trans (SEnt.ch (.cons .head rfl .nil))
               · exact ⟨_, rfl, rfl⟩)
  | some X =>
    obtain ⟨hg, rfl⟩ := genO_some hO
    have hF := free_ok hg hoo
    obtain ⟨_, hk, _⟩ := rankB_at hg
    obtain ⟨k2, rfl⟩ : ∃ k2 : Nat, k = k2 := ⟨k.toNat, by omega⟩
    refine Spec.of_run2 (n := 21) Try.func35 rfl Try.results35 Try.ntmps35 rfl ?_
    repeat' (first | (with_reducible first | refine RL.done ?_ | refine RL.app1 ?_) | (with_reducible refine RL.wanted ?_ ?_; exact rfl) | ((with_reducible show RH _ _ _ ⟨some 2, .box _ _, _, _, _, _⟩ _ _ _ _); (refine RH.boxAgg rfl rfl ?_; rintro _ _ ⟨b2, rfl, rfl⟩)) | ((with_reducible show RH _ _ _ ⟨_, .call ⟨.value (.func 77), _, _⟩, _, _, _, _⟩ _ _ _ _); refine RH.cP Try.call77 ?_; refine ⟨_, freeS_yes hoo hol ho hO, ?_⟩; rintro _ _ ⟨s8, rfl, rfl⟩) | ((with_reducible show RH _ _ _ ⟨_, .call ⟨.value (.func 97), _, _⟩, _, _, _, _⟩ _ _ _ _); refine RH.cL Try.call97 ?_; apply Exists.intro; apply And.intro; (focus ((repeat (first | exact LVs.nil | (apply LVs.sl; (with_reducible repeat (first | exact Has.head | apply Has.tail)); exact inferInstance; exact rfl) | apply LVs.agg | apply LVs.refl)); done)); refine ⟨_, l11Places_c n os k2 X hg hF, (by intro r H h; first | (obtain ⟨rfl, rfl⟩ := h; exact ⟨inferInstance, inferInstance⟩) | (obtain ⟨_, rfl, rfl⟩ := h; exact ⟨inferInstance, inferInstance⟩) | (obtain ⟨_, _, rfl, rfl⟩ := h; exact ⟨inferInstance, inferInstance⟩) | (obtain ⟨_, _, rfl, rfl, _⟩ := h; exact ⟨inferInstance, inferInstance⟩)), ?_⟩; rintro _ _ ⟨s20, rfl, rfl⟩; refine RL.nm ?_) | ((with_reducible show RH _ _ _ _ _ _ _ _); refine RH.val (hK := ?_)) | (with_reducible first | refine Run.seq ?_ | refine Run.region ?_ | refine Run.skip ?_ | refine Run.ret ?_) | (with_reducible show Run _ _ (.cond _ _ _) _ _ _; refine Run.condF rfl ?_) | (with_reducible refine seqN (K := Run _ _ _ _) ?_))
    all_goals (refine ⟨eA, _, [hsl tInt (vsv s20) (plTo n k2 X k2)], resA, ?_, ?_⟩
               · exact SEnt.ch chA
               · exact ⟨s20, rfl, rfl⟩)
set_option maxRecDepth 10000 in
set_option maxHeartbeats 2000000 in
theorem generators_c (n : Int) (os : List (Int × List Int)) (k2 : Nat) (X : List (List Int)) (hg : rankB n os (k2 : Int) = true) (hF : FreeOk n os (k2 : Int) X) (b bs bm : Nat) (kv : KV) (hkv : KvOk X kv) :
    Spec Try.prog 98 [vptr b 0] [hcells bs [vint n, vsl 2 (fun y : Int × (List Int) => [vint y.1, vsl 1 (fun x : Int => [vint x]) y.2]) os, vint ((fLen n k2 : Nat) : Int), vsl 1 (fun t : List Int => [vsl 1 (fun x : Int => [vint x]) t]) X, vmap bm], hcells b [vptr bs 0, vint (k2 : Int), vsl 1 (fun t : List Int => [vsl 1 (fun x : Int => [vint x]) t]) (gensF n k2)], hmapI bm kv]
      (fun r S' => ∃ s : Sv, r = vlit (vsv s) ∧ S' = [hsl tInt (vsv s) (plTo n k2 X k2)]) := by
  obtain ⟨ha, hk, hp⟩ := rankB_at hg
  obtain ⟨hfl, hf1, hf64⟩ := fLen_at hg
  rw [Int.toNat_natCast] at hfl hf1 hf64
  have hfew := hF.few
  have hgl := gensF_length n k2
  refine Spec.of_run2 (n := 31) Try.func98 rfl Try.results98 Try.ntmps98 rfl ?_
  repeat' (first | (with_reducible refine RL.done ?_) | (with_reducible refine RL.wanted ?_ ?_; exact rfl) | ((with_reducible show RH _ _ _ ⟨some 6, .buildSlice _ _ _, _, _, _, _⟩ _ _ _ _); refine RH.eff rfl rfl (EOpS.e (EOpS.slit (fun x : Int => [vint x]) _ (fun _ _ => rfl) (by repeat (first | exact Elts.nil | (apply Elts.cons; exact rfl; exact CellsOf.one))) rfl rfl)) ?_; rintro _ _ ⟨b6, rfl, rfl⟩) | ((with_reducible show RH _ _ _ _ _ _ _ _); refine RH.val (hK := ?_)) | (with_reducible first | refine Run.seq ?_ | refine Run.region ?_ | refine Run.block ?_) | (with_reducible refine seqN (K := Run _ _ _ _) ?_))
  refine Run.sent (T := [hsl tInt (vsv (some ⟨b6, 0, none⟩, 0, 0)) [], hcells bs [vint n, vsl 2 (fun y : Int × (List Int) => [vint y.1, vsl 1 (fun x : Int => [vint x]) y.2]) os, vint ((fLen n k2 : Nat) : Int), vsl 1 (fun t : List Int => [vsl 1 (fun x : Int => [vint x]) t]) X, vmap bm], hcells b [vptr bs 0, vint (k2 : Int), vsl 1 (fun t : List Int => [vsl 1 (fun x : Int => [vint x]) t]) (gensF n k2)], hmapI bm kv]) (SEnt.packNil tInt rfl) ?_
  refine Run.loop (α := Nat × Sv) (fun z => [(0, vptr b 0), (3, vlit (vsv z.2)), (10, vsl 1 (fun t : List Int => [vsl 1 (fun x : Int => [vint x]) t]) (gensF n k2)), (11, vint ((gensF n k2).length : Int)), (12, vint (z.1 : Int))])
    (fun z => [hsl tInt (vsv z.2) (plTo n k2 X z.1), hcells bs [vint n, vsl 2 (fun y : Int × (List Int) => [vint y.1, vsl 1 (fun x : Int => [vint x]) y.2]) os, vint ((fLen n k2 : Nat) : Int), vsl 1 (fun t : List Int => [vsl 1 (fun x : Int => [vint x]) t]) X, vmap bm], hcells b [vptr bs 0, vint (k2 : Int), vsl 1 (fun t : List Int => [vsl 1 (fun x : Int => [vint x]) t]) (gensF n k2)], hmapI bm kv]) (fun z => z.1 ≤ (gensF n k2).length) (fun z => (gensF n k2).length - z.1) (0, (some ⟨b6, 0, none⟩, 0, 0)) (Nat.zero_le _) (Ent.of slA .refl) ?_
  rintro ⟨m, s⟩ hm
  dsimp only at hm ⊢
  have hpl := plTo_length n k2 X m
  rcases Nat.lt_or_eq_of_le hm with h9 | h9
  · have hrl : (gensF n k2)[m].length = fLen n k2 := by rw [gens_at, genRow_length]
    have hin : (gensF n k2)[m] ∈ X := hF.gen _ (by rw [Int.toNat_natCast]; exact List.getElem_mem h9)
    have hd := plTo_succ n k2 X m
    rw [← gens_at h9, ← hkv _ hin] at hd
    repeat' (first | (with_reducible first | refine RL.done ?_ | refine RD.app0 ?_) | (with_reducible refine RL.wanted ?_ ?_; exact rfl) | ((with_reducible show Run _ _ (.region 5 _ true) _ _ _); refine Run.regionD (fun i => i == 12) rfl ?_; change RD _ _ _ _ _ _ 14 (dm 14 0) _ _) | ((with_reducible show RD _ _ 5 _ _ _ _ _ _ _); first | ((with_reducible show RD _ _ _ _ _ _ _ (dm 14 0) _ _); refine RD.tk 0 (dm 14 12288) (dm 14 1) (hK := ?_)) | ((with_reducible show RD _ _ _ _ _ _ _ (dm 14 1) _ _); refine RD.tk 1 (dm 14 15612) (dm 14 3) (hK := ?_)) | ((with_reducible show RD _ _ _ _ _ _ _ (dm 14 3) _ _); refine RD.tk 2 (dm 14 15608) (dm 14 7) (hK := ?_)) | ((with_reducible show RD _ _ _ _ _ _ _ (dm 14 7) _ _); refine RD.tk 3 (dm 14 15600) (dm 14 15) (hK := ?_)) | ((with_reducible show RD _ _ _ _ _ _ _ (dm 14 15) _ _); refine RD.tk 4 (dm 14 15584) (dm 14 31) (hK := ?_)) | ((with_reducible show RD _ _ _ _ _ _ _ (dm 14 31) _ _); refine RD.tk 5 (dm 14 15552) (dm 14 63) (hK := ?_)) | ((with_reducible show RD _ _ _ _ _ _ _ (dm 14 63) _ _); refine RD.tk 6 (dm 14 15488) (dm 14 127) (hK := ?_)) | ((with_reducible show RD _ _ _ _ _ _ _ (dm 14 127) _ _); refine RD.tk 7 (dm 14 15360) (dm 14 255) (hK := ?_)) | ((with_reducible show RD _ _ _ _ _ _ _ (dm 14 255) _ _); refine RD.tk 8 (dm 14 15872) (dm 14 511) (hK := ?_)) | ((with_reducible show RD _ _ _ _ _ _ _ (dm 14 511) _ _); refine RD.a1 9 ?_) | ((with_reducible show RD _ _ _ _ _ _ _ (dm 14 1023) _ _); refine RD.tk 10 (dm 14 14336) (dm 14 2047) (hK := ?_)) | ((with_reducible show RD _ _ _ _ _ _ _ (dm 14 2047) _ _); refine RD.a1 11 ?_) | ((with_reducible show RD _ _ _ _ _ _ _ (dm 14 4095) _ _); refine RD.a1 12 ?_) | ((with_reducible show RD _ _ _ _ _ _ _ (dm 14 8191) _ _); refine RD.tk 13 (dm 14 0) (dm 14 16383) (hK := ?_)) | ((with_reducible show RD _ _ _ _ _ _ 0 _ _ _); refine RD.done (by kernel_rfl) ?_)) | ((with_reducible show RO _ _ 5 _ _ _ _ _ _ _ _); first | ((with_reducible show RO _ _ _ _ _ _ _ (dm 14 511) 9 _ _); (refine RO.cP (dm 14 1023) Try.call147 ?_; refine ⟨_, keyOf_c _ (by omega), ?_⟩; rintro _ _ ⟨rfl, rfl⟩)) | ((with_reducible show RO _ _ _ _ _ _ _ (dm 14 2047) 11 _ _); (refine RO.eS (dm 14 4095) (hv := by show EOpS _ _ _ _ ⟨_, .buildSlice _ _ _, _, _, _, _⟩ _; exact EOpS.slit (fun x : Int => [vint x]) _ (fun _ _ => rfl) (by repeat (first | exact Elts.nil | (apply Elts.cons; exact rfl; exact CellsOf.one))) rfl rfl) (h := ?_); rintro _ _ ⟨b27, rfl, rfl⟩)) | ((with_reducible show RO _ _ _ _ _ _ _ (dm 14 4095) 12 _ _); (refine RO.h (dm 14 8191) ?_; show RH _ _ _ ⟨_, _, _, _, _, _⟩ _ _ _ _))) | ((with_reducible show RH _ _ _ ⟨_, .call ⟨.builtin .append, _, _⟩, _, _, _, _⟩ _ _ _ _); (refine RH.appI rfl rfl rfl (by repeat (first | exact Pick.nil | (apply Pick.cons; (with_reducible repeat (first | exact Rem.head | apply Rem.tail))))) (by first | omega | (simp; omega)) (by first | omega | (simp; omega)) ?_); rintro _ _ ⟨s, rfl, rfl⟩) | ((with_reducible show RH _ _ _ _ _ _ _ _); refine RH.val (hK := ?_)) | (with_reducible first | refine Run.seq ?_ | refine Run.region ?_ | refine Run.block ?_ | refine Run.skip ?_ | refine Run.exit ?_ | refine Run.ret ?_) | (with_reducible show Run _ _ (.cond _ _ _) _ _ _; refine Run.condD rfl (fun h => ?_) (fun h => ?_)) | (with_reducible first | refine seqN (K := Run _ _ _ _) ?_ | refine seqE ?_ | refine blockN ?_ | refine blockE ?_))
    all_goals first
      | (exfalso; omega)
      | (with_reducible refine seqN ?_
         exact ⟨(m + 1, _), by dsimp only; omega, by dsimp only; omega, Ent.of (by dsimp only; exact slA) (by dsimp only; rw [hd]; exact chA)⟩)
  · subst h9
    repeat' (first | (with_reducible refine RL.done ?_) | (with_reducible refine RL.wanted ?_ ?_; exact rfl) | ((with_reducible show RH _ _ _ _ _ _ _ _); refine RH.val (hK := ?_)) | (with_reducible first | refine Run.seq ?_ | refine Run.region ?_ | refine Run.block ?_ | refine Run.skip ?_ | refine Run.exit ?_ | refine Run.ret ?_) | (with_reducible show Run _ _ (.cond _ _ _) _ _ _; refine Run.condD rfl (fun h => ?_) (fun h => ?_)) | (with_reducible first | refine seqN (K := Run _ _ _ _) ?_ | refine seqE ?_ | refine blockE ?_))
    all_goals first
      | (exfalso; omega)
      | (refine ⟨eA, _, [hsl tInt (vsv s) (plTo n k2 X k2)], resA, ?_, ?_⟩
         · exact SEnt.ch (.cons (by ((with_reducible repeat (first | exact Rem.head | apply Rem.tail)); done)) (by rw [hgl]) .nil)
         · exact ⟨s, rfl, rfl⟩)
set_option maxRecDepth 10000 in
set_option maxHeartbeats 1000000 in
theorem implGens_c (n : Int) (os : List (Int × List Int)) (k : Int) (o : Option (List (List Int))) (hoo : FreeIs n os k o) (hol : os.length ≤ 4611686018427387904) (ho : OpsLen os) :
    Spec Try.prog 36 [vagg [vint n, vsl 2 (fun y : Int × (List Int) => [vint y.1, vsl 1 (fun x : Int => [vint x]) y.2]) os], vint k] [] (LiRes (plV n k (genO (rankB n os k) o))) := by
  cases hO : genO (rankB n os k) o with
  | none =>
    refine Spec.of_run2 (n := 19) Try.func36 rfl Try.results36 Try.ntmps36 rfl ?_
    repeat' (first | (with_reducible first | refine RL.done ?_ | refine RL.app0 ?_) | (with_reducible refine RL.wanted ?_ ?_; exact rfl) | ((with_reducible show RH _ _ _ ⟨some 2, .box _ _, _, _, _, _⟩ _ _ _ _); (refine RH.boxAgg rfl rfl ?_; rintro _ _ ⟨b2, rfl, rfl⟩)) | ((with_reducible show RH _ _ _ ⟨some 16, .buildSlice _ _ _, _, _, _, _⟩ _ _ _ _); refine RH.eff rfl rfl (EOpS.e (EOpS.slit (fun x : Int => [vint x]) _ (fun _ _ => rfl) (by repeat (first | exact Elts.nil | (apply Elts.cons; exact rfl; exact CellsOf.one))) rfl rfl)) ?_; rintro _ _ ⟨b16, rfl, rfl⟩) | ((with_reducible show RH _ _ _ ⟨_, .call ⟨.value (.func 82), _, _⟩, _, _, _, _⟩ _ _ _ _); refine RH.cP Try.call82 ?_; refine ⟨_, freeI_no hoo hol ho hO, ?_⟩; rintro _ _ ⟨rfl, rfl⟩) | ((with_reducible show RH _ _ _ _ _ _ _ _); refine RH.val (hK := ?_)) | (with_reducible first | refine Run.seq ?_ | refine Run.region ?_ | refine Run.ret ?_) | (with_reducible show Run _ _ (.cond _ _ _) _ _ _; refine Run.condT rfl ?_) | (with_reducible first | refine seqN (K := Run _ _ _ _) ?_ | refine seqR ?_))
    all_goals (refine ⟨eA, _, [hsl tInt (vsv (some ⟨b16, 0, none⟩, 0, 0)) []], resA, ?_, ?_⟩
               · exact (SEnt.packNil tInt rfl).trans (SEnt.ch (.cons .head rfl .nil))
               · exact ⟨_, rfl, rfl⟩)
  | some X =>
    obtain ⟨hg, rfl⟩ := genO_some hO
    have hF := free_ok hg hoo
    obtain ⟨_, hk, _⟩ := rankB_at hg
    obtain ⟨k2, rfl⟩ : ∃ k2 : Nat, k = k2 := ⟨k.toNat, by omega⟩
    have hfr := freeI_frz hoo hol ho hO
    rw [Int.toNat_natCast] at hfr
    refine Spec.of_run2 (n := 19) Try.func36 rfl Try.results36 Try.ntmps36 rfl ?_
    repeat' (first | (with_reducible first | refine RL.done ?_ | refine RL.app3 ?_) | (with_reducible refine RL.wanted ?_ ?_; exact rfl) | ((with_reducible show RH _ _ _ ⟨some 2, .box _ _, _, _, _, _⟩ _ _ _ _); (refine RH.boxAgg rfl rfl ?_; rintro _ _ ⟨b2, rfl, rfl⟩)) | ((with_reducible show RH _ _ _ ⟨_, .call ⟨.value (.func 82), _, _⟩, _, _, _, _⟩ _ _ _ _); refine RH.cP Try.call82 ?_; refine ⟨_, hfr, ?_⟩; rintro _ _ ⟨b, bs, bm, kv, rfl, rfl, hkv⟩) | ((with_reducible show RH _ _ _ ⟨_, .call ⟨.value (.func 98), _, _⟩, _, _, _, _⟩ _ _ _ _); refine RH.cW Try.call98 ?_; refine ⟨_, _, _, (by repeat (first | exact Pick.nil | (apply Pick.cons; (with_reducible repeat (first | exact Rem.head | apply Rem.tail))))), generators_c n os k2 X hg hF b bs bm kv hkv, ?_⟩; rintro _ _ ⟨s18, rfl, rfl⟩; refine RL.nm ?_) | ((with_reducible show RH _ _ _ _ _ _ _ _); refine RH.val (hK := ?_)) | (with_reducible first | refine Run.seq ?_ | refine Run.region ?_ | refine Run.skip ?_ | refine Run.ret ?_) | (with_reducible show Run _ _ (.cond _ _ _) _ _ _; refine Run.condF rfl ?_) | (with_reducible refine seqN (K := Run _ _ _ _) ?_))
    all_goals (refine ⟨eA, _, [hsl tInt (vsv s18) (plTo n k2 X k2)], resA, ?_, ?_⟩
               · exact SEnt.ch chA
               · exact ⟨s18, rfl, rfl⟩)
end Go.Proofs.Ytejeeokjjbiadaa
