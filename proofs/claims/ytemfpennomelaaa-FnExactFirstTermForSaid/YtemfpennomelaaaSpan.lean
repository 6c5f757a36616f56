/- The span of tuples: impl.mostTuples, applyTuples, span.add. Proved for this program; conditions: valid operations, tuples of elements. -/
import Derived.Test.YtemfpennomelaaaSpanP
import Derived.Test.YtemfpennomelaaaKeys
import Derived.Test.YtemfpennomelaaaRelOf
namespace Go.Proofs.Ytemfpennomelaaa
open Go Go.Proofs
set_option linter.unusedVariables false
set_option maxRecDepth 10000 in
set_option maxHeartbeats 1000000 in
theorem mostTuples_c (n : Int) (os : List (Int × List Int)) (hl : os.length ≤ 1048576) :
    Spec Try.prog 54 [vagg [vint n, vsl 2 (fun y : Int × (List Int) => [vint y.1, vsl 1 (fun x : Int => [vint x]) y.2]) os]] [] (fun r S' => r = vint (mostV os : Int) ∧ S' = []) := by
  refine Spec.of_run2 (n := 23) Try.func54 rfl Try.results54 Try.ntmps54 rfl ?_
  repeat' (first | (with_reducible refine RL.done ?_) | (with_reducible refine RL.wanted ?_ ?_; exact rfl) | ((with_reducible show RH _ _ _ ⟨some 1, .box _ _, _, _, _, _⟩ _ _ _ _); (refine RH.boxAgg rfl rfl ?_; rintro _ _ ⟨b1, rfl, rfl⟩)) | ((with_reducible show RH _ _ _ _ _ _ _ _); refine RH.val (hK := ?_)) | (with_reducible first | refine Run.seq ?_ | refine Run.region ?_ | refine Run.block ?_) | (with_reducible refine seqN (K := Run _ _ _ _) ?_))
  refine Run.loop (α := Nat) (fun j => [(1, vptr b1 0), (3, vint (maxA (os.take j) 0)), (7, vsl 2 (fun y : Int × (List Int) => [vint y.1, vsl 1 (fun x : Int => [vint x]) y.2]) os), (8, vint (os.length : Int)), (9, vint (j : Int))]) (fun j => [hcells b1 [vint n, vsl 2 (fun y : Int × (List Int) => [vint y.1, vsl 1 (fun x : Int => [vint x]) y.2]) os]]) (fun j => j ≤ os.length) (fun j => os.length - j) 0 (Nat.zero_le _) (Ent.of (by (repeat (first | exact Sl.nil | refine Sl.cons rfl rfl ?_ | refine Sl.cons rfl (congrArg (fun z => vlit (Value.int .i64 z)) (by omega)) ?_ | refine Sl.cons rfl (by simp [maxA]) ?_))) chA) ?_
  intro j hj
  rcases Nat.lt_or_eq_of_le hj with h9 | h9
  · have hs := maxA_take (m := 0) h9
    repeat' (first | (with_reducible refine RL.done ?_) | (with_reducible refine RL.wanted ?_ ?_; exact rfl) | ((with_reducible show RH _ _ _ ⟨some 5, .alloc _, _, _, _, _⟩ _ _ _ _); refine RH.alloc rfl ?_; rintro _ _ ⟨b5, rfl, rfl⟩) | ((with_reducible show RH _ _ _ _ _ _ _ _); first | refine RH.val (hK := ?_) | refine RH.upd (hK := ?_)) | (with_reducible first | refine Run.seq ?_ | refine Run.region ?_ | refine Run.block ?_ | refine Run.skip ?_ | refine Run.exit ?_ | refine Run.ret ?_) | (with_reducible show Run _ _ (.cond _ _ _) _ _ _; refine Run.condD rfl (fun h => ?_) (fun h => ?_)) | (with_reducible first | refine seqN (K := Run _ _ _ _) ?_ | refine seqE ?_ | refine seqR ?_ | refine blockN ?_ | refine blockR ?_ | refine blockE ?_))
    all_goals first
      | (exfalso; omega)
      | (with_reducible refine seqN ?_
         exact ⟨j + 1, by omega, by omega, Ent.of (by rw [hs]; exact slA) chA⟩)
  · subst h9
    rw [List.take_length]
    repeat' (first | (with_reducible refine RL.done ?_) | (with_reducible refine RL.wanted ?_ ?_; exact rfl) | ((with_reducible show RH _ _ _ ⟨some 5, .alloc _, _, _, _, _⟩ _ _ _ _); refine RH.alloc rfl ?_; rintro _ _ ⟨b5, rfl, rfl⟩) | ((with_reducible show RH _ _ _ _ _ _ _ _); first | refine RH.val (hK := ?_) | refine RH.upd (hK := ?_)) | (with_reducible first | refine Run.seq ?_ | refine Run.region ?_ | refine Run.block ?_ | refine Run.skip ?_ | refine Run.exit ?_ | refine Run.ret ?_) | (with_reducible show Run _ _ (.cond _ _ _) _ _ _; refine Run.condD rfl (fun h => ?_) (fun h => ?_)) | (with_reducible first | refine seqN (K := Run _ _ _ _) ?_ | refine seqE ?_ | refine seqR ?_ | refine blockN ?_ | refine blockR ?_ | refine blockE ?_))
    all_goals first
      | (exfalso; omega)
      | (refine ⟨eA, _, [], resA, .ch .nil, ?_⟩
         refine ⟨?_, rfl⟩
         rw [mostV]
         first
           | (rw [if_pos (by assumption)]; rfl)
           | (rw [if_neg (by assumption), if_pos (by assumption)]; rfl)
           | (rw [if_neg (by assumption), if_neg (by assumption)]; rfl))
set_option maxRecDepth 10000 in
set_option maxHeartbeats 1000000 in
theorem applyTuples_c (n a : Int) (os : List (Int × List Int)) (tb : List Int) (ts : List (List Int)) (m : Nat) (ha : ApOk n tb ts m) :
    Spec Try.prog 63 [vagg [vint n, vsl 2 (fun y : Int × (List Int) => [vint y.1, vsl 1 (fun x : Int => [vint x]) y.2]) os], vagg [vint a, vsl 1 (fun x : Int => [vint x]) tb], vint (m : Int), vsl 1 (fun t : List Int => [vsl 1 (fun x : Int => [vint x]) t]) ts] [] (fun r S' => ∃ s : Sv, r = vlit (vsv s) ∧ S' = [hsl tInt (vsv s) (applyT n tb ts m)]) := by
  have hbig := ha.big
  have hfew := ha.few
  have hn8 := ha.n8
  have hn1 := ha.n1
  refine Spec.of_run2 (n := 47) Try.func63 rfl Try.results63 Try.ntmps63 rfl ?_
  repeat' (first | (with_reducible refine RL.done ?_) | (with_reducible refine RL.wanted ?_ ?_; exact rfl) | ((with_reducible show RH _ _ _ ⟨some 4, .box _ _, _, _, _, _⟩ _ _ _ _); (refine RH.boxAgg rfl rfl ?_; rintro _ _ ⟨b4, rfl, rfl⟩)) | ((with_reducible show RH _ _ _ ⟨some 5, .box _ _, _, _, _, _⟩ _ _ _ _); (refine RH.boxAgg rfl rfl ?_; rintro _ _ ⟨b5, rfl, rfl⟩)) | ((with_reducible show RH _ _ _ ⟨some 15, .makeSlice _ _ _, _, _, _, _⟩ _ _ _ _); refine RH.make (α := Int) rfl (fun x => [vint x]) 0 (fun c => .cons rfl .nil) rfl rfl (by omega) (by omega) (by omega) ?_; rintro _ _ ⟨b15, rfl, rfl⟩) | ((with_reducible show RH _ _ _ _ _ _ _ _); refine RH.val (hK := ?_)) | (with_reducible first | refine Run.seq ?_ | refine Run.region ?_ | refine Run.block ?_) | (with_reducible refine seqN (K := Run _ _ _ _) ?_))
  refine Run.loop (α := Nat) (fun p => [(3, vsl 1 (fun t : List Int => [vsl 1 (fun x : Int => [vint x]) t]) ts), (4, vptr b4 0), (5, vptr b5 0), (9, vsb b15 m m), (17, vint (m : Int)), (18, vint (p : Int))]) (fun p => [harr b15 1 (fun x : Int => [vint x]) (applyT n tb ts p ++ List.replicate (m - p) (0 : Int)) (m * 1), hcells b5 [vint a, vsl 1 (fun x : Int => [vint x]) tb], hcells b4 [vint n, vsl 2 (fun y : Int × (List Int) => [vint y.1, vsl 1 (fun x : Int => [vint x]) y.2]) os]]) (fun p => p ≤ m) (fun p => m - p) 0 (by simp) (Ent.of slA (.cons .head (by simp [applyT]) chA)) ?_
  intro p hp
  have hl := applyT_length n tb ts p
  have hl3 : (applyT n tb ts p ++ List.replicate (m - p) (0 : Int)).length = m := by simp [hl]; omega
  rcases Nat.lt_or_eq_of_le hp with h9 | rfl
  · repeat' (first | (with_reducible refine RL.done ?_) | (with_reducible refine RL.wanted ?_ ?_; exact rfl) | ((with_reducible show RH _ _ _ _ _ _ _ _); refine RH.val (hK := ?_)) | (with_reducible first | refine Run.seq ?_ | refine Run.region ?_ | refine Run.block ?_ | refine Run.skip ?_ | refine Run.exit ?_ | refine Run.ret ?_) | (with_reducible show Run _ _ (.cond _ _ _) _ _ _; refine Run.condD rfl (fun h => ?_) (fun h => ?_)) | (with_reducible first | refine seqN (K := Run _ _ _ _) ?_ | refine seqE ?_ | refine blockE ?_))
    · refine Run.loop (α := Nat) (fun i => [(3, vsl 1 (fun t : List Int => [vsl 1 (fun x : Int => [vint x]) t]) ts), (4, vptr b4 0), (5, vptr b5 0), (9, vsb b15 m m), (17, vint (m : Int)), (18, vint (p : Int)), (10, vint (p : Int)), (11, vint (hor n ((colT ts p).take i))), (21, vsl 1 (fun t : List Int => [vsl 1 (fun x : Int => [vint x]) t]) ts), (22, vint (ts.length : Int)), (23, vint (i : Int))]) (fun i => [harr b15 1 (fun x : Int => [vint x]) (applyT n tb ts p ++ List.replicate (m - p) (0 : Int)) (m * 1), hcells b5 [vint a, vsl 1 (fun x : Int => [vint x]) tb], hcells b4 [vint n, vsl 2 (fun y : Int × (List Int) => [vint y.1, vsl 1 (fun x : Int => [vint x]) y.2]) os]]) (fun i => i ≤ ts.length) (fun i => ts.length - i) 0 (by simp) (Ent.of (by (repeat (first | exact Sl.nil | refine Sl.cons rfl rfl ?_ | refine Sl.cons rfl (congrArg (fun z => vlit (Value.int .i64 z)) (by omega)) ?_ | refine Sl.cons rfl (by simp [hor]) ?_))) chA) ?_
      intro i hi
      rcases Nat.lt_or_eq_of_le hi with h8 | rfl
      · obtain ⟨hl2, hv1, hv2, hs, hb1, hb2, hb3, hb4⟩ := ha.step h9 h8
        repeat' (first | (with_reducible refine RL.done ?_) | (with_reducible refine RL.wanted ?_ ?_; exact rfl) | ((with_reducible show Run _ _ (.region 9 _ true) _ _ _); refine Run.regionD (fun i => false) rfl ?_; change RD _ _ _ _ _ _ 10 (dm 10 0) _ _) | ((with_reducible show RD _ _ 9 _ _ _ _ _ _ _); first | ((with_reducible show RD _ _ _ _ _ _ _ (dm 10 0) _ _); refine RD.tk 0 (dm 10 776) (dm 10 1) (hK := ?_)) | ((with_reducible show RD _ _ _ _ _ _ _ (dm 10 1) _ _); refine RD.tk 1 (dm 10 780) (dm 10 3) (hK := ?_)) | ((with_reducible show RD _ _ _ _ _ _ _ (dm 10 3) _ _); refine RD.tk 2 (dm 10 776) (dm 10 7) (hK := ?_)) | ((with_reducible show RD _ _ _ _ _ _ _ (dm 10 7) _ _); refine RD.tk 3 (dm 10 768) (dm 10 15) (hK := ?_)) | ((with_reducible show RD _ _ _ _ _ _ _ (dm 10 15) _ _); refine RD.tk 4 (dm 10 960) (dm 10 31) (hK := ?_)) | ((with_reducible show RD _ _ _ _ _ _ _ (dm 10 31) _ _); refine RD.tk 5 (dm 10 960) (dm 10 63) (hK := ?_)) | ((with_reducible show RD _ _ _ _ _ _ _ (dm 10 63) _ _); refine RD.tk 6 (dm 10 896) (dm 10 127) (hK := ?_)) | ((with_reducible show RD _ _ _ _ _ _ _ (dm 10 127) _ _); refine RD.tk 7 (dm 10 768) (dm 10 255) (hK := ?_)) | ((with_reducible show RD _ _ _ _ _ _ _ (dm 10 255) _ _); refine RD.tk 8 (dm 10 512) (dm 10 511) (hK := ?_)) | ((with_reducible show RD _ _ _ _ _ _ _ (dm 10 511) _ _); refine RD.tk 9 (dm 10 0) (dm 10 1023) (hK := ?_)) | ((with_reducible show RD _ _ _ _ _ _ 0 _ _ _); refine RD.done (by kernel_rfl) ?_)) | ((with_reducible show RH _ _ _ _ _ _ _ _); first | refine RH.val (hK := ?_) | refine RH.upd (hK := ?_)) | (with_reducible first | refine Run.seq ?_ | refine Run.region ?_ | refine Run.block ?_ | refine Run.skip ?_ | refine Run.exit ?_) | (with_reducible show Run _ _ (.cond _ _ _) _ _ _; refine Run.condD rfl (fun h => ?_) (fun h => ?_)) | (with_reducible first | refine seqN (K := Run _ _ _ _) ?_ | refine seqE ?_ | refine blockN ?_ | refine blockE ?_))
        · with_reducible refine seqN ?_
          exact ⟨i + 1, by omega, by omega, Ent.of (by rw [hs]; exact slA) chA⟩
        · exfalso; omega
      · obtain ⟨hv1, hv2⟩ := ha.idx h9
        have hc : (colT ts p).take ts.length = colT ts p := List.take_of_length_le (by simp [colT])
        rw [hc]
        repeat' (first | (with_reducible refine RL.done ?_) | (with_reducible refine RL.wanted ?_ ?_; exact rfl) | ((with_reducible show RH _ _ _ _ _ _ _ _); first | refine RH.val (hK := ?_) | refine RH.upd (hK := ?_)) | (with_reducible first | refine Run.seq ?_ | refine Run.region ?_ | refine Run.block ?_ | refine Run.skip ?_ | refine Run.exit ?_) | (with_reducible show Run _ _ (.cond _ _ _) _ _ _; refine Run.condD rfl (fun h => ?_) (fun h => ?_)) | (with_reducible first | refine seqN (K := Run _ _ _ _) ?_ | refine seqE ?_ | refine blockN ?_ | refine blockE ?_))
        · exfalso; omega
        · with_reducible refine seqN ?_
          exact ⟨p + 1, by omega, by omega, Ent.of slA (.cons .head (congrArg (fun ys => harr b15 1 (fun x : Int => [vint x]) ys (m * 1)) (applyT_set n tb ts m p h9 hv2)) chA)⟩
    · exfalso; omega
  · repeat' (first | (with_reducible refine RL.done ?_) | (with_reducible refine RL.wanted ?_ ?_; exact rfl) | ((with_reducible show RH _ _ _ _ _ _ _ _); refine RH.val (hK := ?_)) | (with_reducible first | refine Run.seq ?_ | refine Run.region ?_ | refine Run.block ?_ | refine Run.skip ?_ | refine Run.exit ?_ | refine Run.ret ?_) | (with_reducible show Run _ _ (.cond _ _ _) _ _ _; refine Run.condD rfl (fun h => ?_) (fun h => ?_)) | (with_reducible first | refine seqN (K := Run _ _ _ _) ?_ | refine seqE ?_ | refine blockE ?_))
    · exfalso; omega
    · refine ⟨eA, _, [hsl tInt (vsv (some ⟨b15, 0, none⟩, p, p)) (applyT n tb ts p)], resA, ?_, ?_⟩
      · exact (SEnt.ch (.cons .head (by simp) .nil)).trans (SEnt.pack (fun _ => rfl) hl.symm)
      · exact ⟨(some ⟨b15, 0, none⟩, p, p), rfl, rfl⟩
/-- where the tuples of a list stand -/
def kvL : List (List Int) → Nat → KV
  | [], _ => []
  | t :: L, i => (keyS t, (i : Int)) :: kvL L (i + 1)
theorem kvL_snoc : ∀ (L : List (List Int)) (t : List Int) (i : Nat), kvL (L ++ [t]) i = kvL L i ++ [(keyS t, ((i + L.length : Nat) : Int))]
  | [], t, i => by simp [kvL]
  | u :: L, t, i => by
    rw [List.cons_append, kvL, kvL_snoc L t (i + 1), kvL]
    simp; omega
theorem kvL_keys : ∀ (L : List (List Int)) (i : Nat), (kvL L i).map Prod.fst = L.map keyS
  | [], _ => rfl
  | t :: L, i => by rw [kvL, List.map_cons, List.map_cons, kvL_keys L (i + 1)]
def Byt (t : List Int) : Prop := ∀ x ∈ t, 0 ≤ x ∧ x < 65536
theorem tup_byt {n : Int} {k : Nat} (hn : n ≤ 8) {t : List Int} (h : TupOk n k t) : Byt t := fun x hx => by
  have h1 := h.2
  rw [elB, List.all_eq_true] at h1
  have := h1 x hx
  simp only [decide_eq_true_eq] at this
  omega
abbrev spanH (b bm : Nat) (n : Int) (os : List (Int × List Int)) (k : Nat) (s : Sv) : HP := hcells b [vint n, vsl 2 (fun y : Int × (List Int) => [vint y.1, vsl 1 (fun x : Int => [vint x]) y.2]) os, vint (k : Int), vlit (vsv s), vmap bm]
set_option maxRecDepth 10000 in
set_option maxHeartbeats 1000000 in
theorem add_c (b bm : Nat) (n : Int) (os : List (Int × List Int)) (k : Nat) (s : Sv) (L : List (List Int)) (t : List Int) (hL : L.length ≤ 1048576) (ht : t.length ≤ 1048576) (hb : Byt t) (hbL : ∀ u ∈ L, Byt u) :
    Spec Try.prog 52 [vptr b 0, vsl 1 (fun x : Int => [vint x]) t] [spanH b bm n os k s, hsl tRow (vsv s) L, hmapI bm (kvL L 0)] (fun r S' => ∃ s' : Sv, r = vtup [] ∧ S' = [spanH b bm n os k s', hsl tRow (vsv s') (addT L t), hmapI bm (kvL (addT L t) 0)]) := by
  have hmem : keyS t ∈ (kvL L 0).map Prod.fst ↔ t ∈ L := by rw [kvL_keys]; exact keyS_mem hb hbL
  by_cases h : t ∈ L
  · have h1 := hmem.2 h
    rw [addT, if_pos h]
    refine Spec.of_run2 (n := 39) Try.func52 rfl Try.results52 Try.ntmps52 rfl ?_
    repeat' (first | (with_reducible first | refine RL.done ?_ | refine RD.app0 ?_) | (with_reducible refine RL.wanted ?_ ?_; exact rfl) | ((with_reducible show Run _ _ (.region 0 _ true) _ _ _); refine Run.regionD (fun i => false) rfl ?_; change RD _ _ _ _ _ _ 12 (dm 12 0) _ _) | ((with_reducible show RD _ _ 0 _ _ _ _ _ _ _); first | ((with_reducible show RD _ _ _ _ _ _ _ (dm 12 0) _ _); refine RD.tk 0 (dm 12 4046) (dm 12 1) (hK := ?_)) | ((with_reducible show RD _ _ _ _ _ _ _ (dm 12 1) _ _); refine RD.tk 1 (dm 12 4044) (dm 12 3) (hK := ?_)) | ((with_reducible show RD _ _ _ _ _ _ _ (dm 12 3) _ _); refine RD.tk 2 (dm 12 4040) (dm 12 7) (hK := ?_)) | ((with_reducible show RD _ _ _ _ _ _ _ (dm 12 7) _ _); refine RD.tk 3 (dm 12 4032) (dm 12 15) (hK := ?_)) | ((with_reducible show RD _ _ _ _ _ _ _ (dm 12 15) _ _); refine RD.tk 4 (dm 12 4064) (dm 12 31) (hK := ?_)) | ((with_reducible show RD _ _ _ _ _ _ _ (dm 12 31) _ _); refine RD.a1 5 ?_) | ((with_reducible show RD _ _ _ _ _ _ _ (dm 12 63) _ _); refine RD.tk 6 (dm 12 3968) (dm 12 127) (hK := ?_)) | ((with_reducible show RD _ _ _ _ _ _ _ (dm 12 127) _ _); refine RD.tk 7 (dm 12 3840) (dm 12 255) (hK := ?_)) | ((with_reducible show RD _ _ _ _ _ _ _ (dm 12 255) _ _); refine RD.tk 8 (dm 12 3072) (dm 12 511) (hK := ?_)) | ((with_reducible show RD _ _ _ _ _ _ _ (dm 12 511) _ _); refine RD.tk 9 (dm 12 2048) (dm 12 1023) (hK := ?_)) | ((with_reducible show RD _ _ _ _ _ _ _ (dm 12 1023) _ _); refine RD.tk 10 (dm 12 2048) (dm 12 2047) (hK := ?_)) | ((with_reducible show RD _ _ _ _ _ _ _ (dm 12 2047) _ _); refine RD.tk 11 (dm 12 0) (dm 12 4095) (hK := ?_)) | ((with_reducible show RD _ _ _ _ _ _ 0 _ _ _); refine RD.done (by kernel_rfl) ?_)) | ((with_reducible show RO _ _ 0 _ _ _ _ _ _ _ _); ((with_reducible show RO _ _ _ _ _ _ _ (dm 12 31) 5 _ _); (refine RO.cP (dm 12 63) Try.call30 ?_; refine ⟨_, keyOf_c t (by omega), ?_⟩; rintro _ _ ⟨rfl, rfl⟩))) | ((with_reducible show Run _ _ (.region 2 _ true) _ _ _); refine Run.regionD (fun i => i == 11) rfl ?_; change RD _ _ _ _ _ _ 12 (dm 12 0) _ _) | ((with_reducible show RD _ _ 2 _ _ _ _ _ _ _); first | ((with_reducible show RD _ _ _ _ _ _ _ (dm 12 0) _ _); refine RD.tk 0 (dm 12 2062) (dm 12 1) (hK := ?_)) | ((with_reducible show RD _ _ _ _ _ _ _ (dm 12 1) _ _); refine RD.tk 1 (dm 12 2060) (dm 12 3) (hK := ?_)) | ((with_reducible show RD _ _ _ _ _ _ _ (dm 12 3) _ _); refine RD.tk 2 (dm 12 2056) (dm 12 7) (hK := ?_)) | ((with_reducible show RD _ _ _ _ _ _ _ (dm 12 7) _ _); refine RD.tk 3 (dm 12 2048) (dm 12 15) (hK := ?_)) | ((with_reducible show RD _ _ _ _ _ _ _ (dm 12 15) _ _); refine RD.tk 4 (dm 12 2080) (dm 12 31) (hK := ?_)) | ((with_reducible show RD _ _ _ _ _ _ _ (dm 12 31) _ _); refine RD.tk 6 (dm 12 3968) (dm 12 95) (hK := ?_)) | ((with_reducible show RD _ _ _ _ _ _ _ (dm 12 95) _ _); refine RD.tk 7 (dm 12 3840) (dm 12 223) (hK := ?_)) | ((with_reducible show RD _ _ _ _ _ _ _ (dm 12 223) _ _); refine RD.tk 8 (dm 12 3584) (dm 12 479) (hK := ?_)) | ((with_reducible show RD _ _ _ _ _ _ _ (dm 12 479) _ _); refine RD.tk 9 (dm 12 3072) (dm 12 991) (hK := ?_)) | ((with_reducible show RD _ _ _ _ _ _ _ (dm 12 991) _ _); refine RD.tk 10 (dm 12 2048) (dm 12 2015) (hK := ?_)) | ((with_reducible show RD _ _ _ _ _ _ _ (dm 12 2015) _ _); refine RD.a1 5 ?_) | ((with_reducible show RD _ _ _ _ _ _ _ (dm 12 2047) _ _); refine RD.a1 11 ?_) | ((with_reducible show RD _ _ _ _ _ _ 0 _ _ _); refine RD.done (by kernel_rfl) ?_)) | ((with_reducible show RO _ _ 2 _ _ _ _ _ _ _ _); first | ((with_reducible show RO _ _ _ _ _ _ _ (dm 12 2015) 5 _ _); (refine RO.cP (dm 12 2047) Try.call30 ?_; refine ⟨_, keyOf_c t (by omega), ?_⟩; rintro _ _ ⟨rfl, rfl⟩)) | ((with_reducible show RO _ _ _ _ _ _ _ (dm 12 2047) 11 _ _); (refine RO.h (dm 12 4095) ?_; show RH _ _ _ ⟨_, _, _, _, _, _⟩ _ _ _ _))) | ((with_reducible show RH _ _ _ ⟨some 35, .buildSlice _ _ _, _, _, _, _⟩ _ _ _ _); (refine RH.eff rfl rfl (EOpS.e (EOpS.slit (fun t : List Int => [vsl 1 (fun x : Int => [vint x]) t]) _ (fun _ _ => rfl) (by ((repeat (first | exact Elts.nil | (apply Elts.cons; exact rfl; exact CellsOf.one))); done)) rfl rfl)) ?_; rintro _ _ ⟨b35, rfl, rfl⟩)) | ((with_reducible show RH _ _ _ _ _ _ _ _); first | refine RH.val (hK := ?_) | refine RH.upd (hK := ?_)) | (with_reducible first | refine Run.seq ?_ | refine Run.region ?_ | refine Run.skip ?_) | (with_reducible show Run _ _ (.cond _ _ _) _ _ _; refine Run.condND rfl (fun h => ?_) (fun h => ?_)) | (with_reducible refine seqN (K := Run _ _ _ _) ?_))
    all_goals first
      | (exfalso; simp_all; done)
      | (refine ⟨eA, _, [spanH b bm n os k s, hsl tRow (vsv s) L, hmapI bm (kvL L 0)], resA, ?_, ?_⟩
         · exact SEnt.ch chA
         · exact ⟨s, rfl, rfl⟩)
  · have h1 : keyS t ∉ (kvL L 0).map Prod.fst := fun e => h (hmem.1 e)
    have hk := kvL_snoc L t 0
    rw [Nat.zero_add] at hk
    rw [addT, if_neg h, hk]
    refine Spec.of_run2 (n := 39) Try.func52 rfl Try.results52 Try.ntmps52 rfl ?_
    repeat' (first | (with_reducible first | refine RL.done ?_ | refine RD.app0 ?_) | (with_reducible refine RL.wanted ?_ ?_; exact rfl) | ((with_reducible show Run _ _ (.region 0 _ true) _ _ _); refine Run.regionD (fun i => false) rfl ?_; change RD _ _ _ _ _ _ 12 (dm 12 0) _ _) | ((with_reducible show RD _ _ 0 _ _ _ _ _ _ _); first | ((with_reducible show RD _ _ _ _ _ _ _ (dm 12 0) _ _); refine RD.tk 0 (dm 12 4046) (dm 12 1) (hK := ?_)) | ((with_reducible show RD _ _ _ _ _ _ _ (dm 12 1) _ _); refine RD.tk 1 (dm 12 4044) (dm 12 3) (hK := ?_)) | ((with_reducible show RD _ _ _ _ _ _ _ (dm 12 3) _ _); refine RD.tk 2 (dm 12 4040) (dm 12 7) (hK := ?_)) | ((with_reducible show RD _ _ _ _ _ _ _ (dm 12 7) _ _); refine RD.tk 3 (dm 12 4032) (dm 12 15) (hK := ?_)) | ((with_reducible show RD _ _ _ _ _ _ _ (dm 12 15) _ _); refine RD.tk 4 (dm 12 4064) (dm 12 31) (hK := ?_)) | ((with_reducible show RD _ _ _ _ _ _ _ (dm 12 31) _ _); refine RD.a1 5 ?_) | ((with_reducible show RD _ _ _ _ _ _ _ (dm 12 63) _ _); refine RD.tk 6 (dm 12 3968) (dm 12 127) (hK := ?_)) | ((with_reducible show RD _ _ _ _ _ _ _ (dm 12 127) _ _); refine RD.tk 7 (dm 12 3840) (dm 12 255) (hK := ?_)) | ((with_reducible show RD _ _ _ _ _ _ _ (dm 12 255) _ _); refine RD.tk 8 (dm 12 3072) (dm 12 511) (hK := ?_)) | ((with_reducible show RD _ _ _ _ _ _ _ (dm 12 511) _ _); refine RD.tk 9 (dm 12 2048) (dm 12 1023) (hK := ?_)) | ((with_reducible show RD _ _ _ _ _ _ _ (dm 12 1023) _ _); refine RD.tk 10 (dm 12 2048) (dm 12 2047) (hK := ?_)) | ((with_reducible show RD _ _ _ _ _ _ _ (dm 12 2047) _ _); refine RD.tk 11 (dm 12 0) (dm 12 4095) (hK := ?_)) | ((with_reducible show RD _ _ _ _ _ _ 0 _ _ _); refine RD.done (by kernel_rfl) ?_)) | ((with_reducible show RO _ _ 0 _ _ _ _ _ _ _ _); ((with_reducible show RO _ _ _ _ _ _ _ (dm 12 31) 5 _ _); (refine RO.cP (dm 12 63) Try.call30 ?_; refine ⟨_, keyOf_c t (by omega), ?_⟩; rintro _ _ ⟨rfl, rfl⟩))) | ((with_reducible show Run _ _ (.region 2 _ true) _ _ _); refine Run.regionD (fun i => i == 11) rfl ?_; change RD _ _ _ _ _ _ 12 (dm 12 0) _ _) | ((with_reducible show RD _ _ 2 _ _ _ _ _ _ _); first | ((with_reducible show RD _ _ _ _ _ _ _ (dm 12 0) _ _); refine RD.tk 0 (dm 12 2062) (dm 12 1) (hK := ?_)) | ((with_reducible show RD _ _ _ _ _ _ _ (dm 12 1) _ _); refine RD.tk 1 (dm 12 2060) (dm 12 3) (hK := ?_)) | ((with_reducible show RD _ _ _ _ _ _ _ (dm 12 3) _ _); refine RD.tk 2 (dm 12 2056) (dm 12 7) (hK := ?_)) | ((with_reducible show RD _ _ _ _ _ _ _ (dm 12 7) _ _); refine RD.tk 3 (dm 12 2048) (dm 12 15) (hK := ?_)) | ((with_reducible show RD _ _ _ _ _ _ _ (dm 12 15) _ _); refine RD.tk 4 (dm 12 2080) (dm 12 31) (hK := ?_)) | ((with_reducible show RD _ _ _ _ _ _ _ (dm 12 31) _ _); refine RD.tk 6 (dm 12 3968) (dm 12 95) (hK := ?_)) | ((with_reducible show RD _ _ _ _ _ _ _ (dm 12 95) _ _); refine RD.tk 7 (dm 12 3840) (dm 12 223) (hK := ?_)) | ((with_reducible show RD _ _ _ _ _ _ _ (dm 12 223) _ _); refine RD.tk 8 (dm 12 3584) (dm 12 479) (hK := ?_)) | ((with_reducible show RD _ _ _ _ _ _ _ (dm 12 479) _ _); refine RD.tk 9 (dm 12 3072) (dm 12 991) (hK := ?_)) | ((with_reducible show RD _ _ _ _ _ _ _ (dm 12 991) _ _); refine RD.tk 10 (dm 12 2048) (dm 12 2015) (hK := ?_)) | ((with_reducible show RD _ _ _ _ _ _ _ (dm 12 2015) _ _); refine RD.a1 5 ?_) | ((with_reducible show RD _ _ _ _ _ _ _ (dm 12 2047) _ _); refine RD.a1 11 ?_) | ((with_reducible show RD _ _ _ _ _ _ 0 _ _ _); refine RD.done (by kernel_rfl) ?_)) | ((with_reducible show RO _ _ 2 _ _ _ _ _ _ _ _); first | ((with_reducible show RO _ _ _ _ _ _ _ (dm 12 2015) 5 _ _); (refine RO.cP (dm 12 2047) Try.call30 ?_; refine ⟨_, keyOf_c t (by omega), ?_⟩; rintro _ _ ⟨rfl, rfl⟩)) | ((with_reducible show RO _ _ _ _ _ _ _ (dm 12 2047) 11 _ _); (refine RO.h (dm 12 4095) ?_; show RH _ _ _ ⟨_, _, _, _, _, _⟩ _ _ _ _))) | ((with_reducible show RH _ _ _ ⟨some 35, .buildSlice _ _ _, _, _, _, _⟩ _ _ _ _); (refine RH.eff rfl rfl (EOpS.e (EOpS.slit (fun t : List Int => [vsl 1 (fun x : Int => [vint x]) t]) _ (fun _ _ => rfl) (by ((repeat (first | exact Elts.nil | (apply Elts.cons; exact rfl; exact CellsOf.one))); done)) rfl rfl)) ?_; rintro _ _ ⟨b35, rfl, rfl⟩)) | ((with_reducible show RH _ _ _ ⟨some 36, .call ⟨.builtin .append, _, _⟩, _, _, _, _⟩ _ _ _ _); (refine RH.appF rfl rfl rfl (by repeat (first | exact Pick.nil | (apply Pick.cons; (with_reducible repeat (first | exact Rem.head | apply Rem.tail))))) (by first | omega | (simp; omega)) (by first | omega | (simp; omega)) ?_); rintro _ _ ⟨s36, rfl, rfl⟩) | ((with_reducible show RH _ _ _ _ _ _ _ _); first | refine RH.val (hK := ?_) | refine RH.upd (hK := ?_)) | (with_reducible first | refine Run.seq ?_ | refine Run.region ?_ | refine Run.skip ?_) | (with_reducible show Run _ _ (.cond _ _ _) _ _ _; refine Run.condND rfl (fun h => ?_) (fun h => ?_)) | (with_reducible refine seqN (K := Run _ _ _ _) ?_))
    all_goals first
      | (exfalso; simp_all; done)
      | (refine ⟨eA, _, [spanH b bm n os k s36, hsl tRow (vsv s36) (L ++ [t]), hmapI bm (kvL L 0 ++ [(keyS t, (L.length : Int))])], resA, ?_, ?_⟩
         · exact SEnt.ch chA
         · exact ⟨s36, rfl, rfl⟩)
end Go.Proofs.Ytemfpennomelaaa

/- The span of tuples: impl.span.applyNew. Proved for this program; conditions: a valid algebra, tuples of elements. -/
namespace Go.Proofs.Ytemfpennomelaaa
open Go Go.Proofs
set_option linter.unusedVariables false
theorem Cov.fr {n : Int} {k : Nat} {f : Int × List Int} {A M : List (List Int)} {old : Nat} {f1 f2 : Bool} {L : List (List Int)} (h : Cov n k f A M old f1 L) (h2 : f2 = true → f1 = true) : Cov n k f A M old f2 L :=
  fun us h3 h4 h5 => h us h3 h4 (h5.imp h2 id)
theorem pre_at {M L : List (List Int)} (h : M <+: L) {i : Nat} (hi : i < M.length) : ∃ hj : i < L.length, L[i] = M[i] := by
  obtain ⟨T, rfl⟩ := h
  exact ⟨by simp; omega, List.getElem_append_left hi⟩
set_option maxRecDepth 10000 in
set_option maxHeartbeats 4000000 in
theorem applyNew_c (n : Int) (os : List (Int × List Int)) (k : Nat) (G : List (List Int)) (ha : algB n os = true) (hk : k ≤ 1048576) (hG : ∀ t ∈ G, TupOk n k t) (f : Int × List Int) (hf : f ∈ os) (M : List (List Int)) (old : Nat) (hold : old ≤ 1048576) (b bm ba : Nat) :
    ∀ (d : Nat) (A : List (List Int)) (la : Nat) (fr : Bool) (s : Sv) (L : List (List Int)), la = A.length → A.length + d = f.1.toNat → (∀ u ∈ A, Clo n os k G u) → NewPre n os k G L → L.length ≤ mostV os → M <+: L →
    Spec Try.prog 55 [vptr b 0, vagg [vint f.1, vsl 1 (fun x : Int => [vint x]) f.2], vsb ba la 3, vint (old : Int), vint (M.length : Int), vbool fr] [spanH b bm n os k s, hsl tRow (vsv s) L, hmapI bm (kvL L 0), harr ba 1 (fun t : List Int => [vsl 1 (fun x : Int => [vint x]) t]) A (3 * 1)]
      (fun r S' => ∃ (v : Bool) (L' : List (List Int)) (s' : Sv), r = vbool v ∧ S' = [spanH b bm n os k s', hsl tRow (vsv s') L', hmapI bm (kvL L' 0), harr ba 1 (fun t : List Int => [vsl 1 (fun x : Int => [vint x]) t]) A (3 * 1)] ∧ NewPost n os k G f A M old fr L L' v) := by
  obtain ⟨hn1, hn8, ho4, hops⟩ := algB_at ha
  have hmost := mostV_le os
  have hf3 : 0 ≤ f.1 ∧ f.1 ≤ 3 := by
    have h := hops f hf
    simp only [opB, Bool.and_eq_true, decide_eq_true_eq] at h
    exact h.1
  intro d
  induction d with
  | zero =>
    intro A la fr s L hla hd hA hp hl hM
    subst hla
    have hA3 : A.length = f.1.toNat := by omega
    have hap := ap_ok ha hk hf hA3 (fun u hu => (hA u hu).ok ha hk hG)
    have hclo := Clo.op (k := k) (G := G) hf hA3 hA
    have htup := hclo.ok ha hk hG
    have hbt := tup_byt hn8 htup
    have hbL : ∀ u ∈ L, Byt u := fun u hu => tup_byt hn8 ((hp.clo u hu).ok ha hk hG)
    have htl := htup.1
    have hle := addT_le L (applyT n f.2 A k)
    by_cases hfr : fr = true ∨ (f.1 = 0 ∧ old = 0)
    · have hcov : Cov n k f A M old fr (addT L (applyT n f.2 A k)) := Cov.leaf hA3 fun _ => (addT_mem _ _ _).2 (.inl rfl)
      refine Spec.of_run2 (n := 80) Try.func55 rfl Try.results55 Try.ntmps55 rfl ?_
      repeat' (first | (with_reducible first | refine RL.done ?_ | refine RD.app0 ?_) | (with_reducible refine RL.wanted ?_ ?_; exact rfl) | ((with_reducible show Run _ _ (.region 3 _ true) _ _ _); refine Run.regionD (fun i => i == 12) rfl ?_; change RD _ _ _ _ _ _ 13 (dm 13 0) _ _) | ((with_reducible show RD _ _ 3 _ _ _ _ _ _ _); first | ((with_reducible show RD _ _ _ _ _ _ _ (dm 13 0) _ _); refine RD.tk 0 (dm 13 4096) (dm 13 1) (hK := ?_)) | ((with_reducible show RD _ _ _ _ _ _ _ (dm 13 1) _ _); refine RD.tk 1 (dm 13 6172) (dm 13 3) (hK := ?_)) | ((with_reducible show RD _ _ _ _ _ _ _ (dm 13 3) _ _); refine RD.tk 2 (dm 13 6168) (dm 13 7) (hK := ?_)) | ((with_reducible show RD _ _ _ _ _ _ _ (dm 13 7) _ _); refine RD.tk 3 (dm 13 6160) (dm 13 15) (hK := ?_)) | ((with_reducible show RD _ _ _ _ _ _ _ (dm 13 15) _ _); refine RD.tk 4 (dm 13 6144) (dm 13 31) (hK := ?_)) | ((with_reducible show RD _ _ _ _ _ _ _ (dm 13 31) _ _); refine RD.tk 5 (dm 13 6144) (dm 13 63) (hK := ?_)) | ((with_reducible show RD _ _ _ _ _ _ _ (dm 13 63) _ _); refine RD.tk 6 (dm 13 7040) (dm 13 127) (hK := ?_)) | ((with_reducible show RD _ _ _ _ _ _ _ (dm 13 127) _ _); refine RD.tk 7 (dm 13 6912) (dm 13 255) (hK := ?_)) | ((with_reducible show RD _ _ _ _ _ _ _ (dm 13 255) _ _); refine RD.tk 8 (dm 13 6656) (dm 13 511) (hK := ?_)) | ((with_reducible show RD _ _ _ _ _ _ _ (dm 13 511) _ _); refine RD.tk 9 (dm 13 6144) (dm 13 1023) (hK := ?_)) | ((with_reducible show RD _ _ _ _ _ _ _ (dm 13 1023) _ _); refine RD.tk 10 (dm 13 6144) (dm 13 2047) (hK := ?_)) | ((with_reducible show RD _ _ _ _ _ _ _ (dm 13 2047) _ _); refine RD.a1 11 ?_) | ((with_reducible show RD _ _ _ _ _ _ _ (dm 13 4095) _ _); refine RD.a1 12 ?_) | ((with_reducible show RD _ _ _ _ _ _ 0 _ _ _); refine RD.done (by kernel_rfl) ?_)) | ((with_reducible show RO _ _ 3 _ _ _ _ _ _ _ _); first | ((with_reducible show RO _ _ _ _ _ _ _ (dm 13 2047) 11 _ _); (refine RO.cL (dm 13 4095) Try.call63 ?_; apply Exists.intro; apply And.intro; (focus ((repeat (first | exact LVs.nil | (apply LVs.arr; (with_reducible repeat (first | exact Has.head | apply Has.tail)); (exact rfl); exact rfl) | apply LVs.agg | apply LVs.refl)); done)); refine ⟨_, applyTuples_c n f.1 os f.2 A k hap, (by intro r H h; first | (obtain ⟨rfl, rfl⟩ := h; exact ⟨inferInstance, inferInstance⟩) | (obtain ⟨_, rfl, rfl⟩ := h; exact ⟨inferInstance, inferInstance⟩) | (obtain ⟨_, _, rfl, rfl⟩ := h; exact ⟨inferInstance, inferInstance⟩) | (obtain ⟨_, _, rfl, rfl, _⟩ := h; exact ⟨inferInstance, inferInstance⟩)), ?_⟩; rintro _ _ ⟨s40, rfl, rfl⟩; refine RD.app1 ?_; refine RD.frzI ?_)) | ((with_reducible show RO _ _ _ _ _ _ _ (dm 13 4095) 12 _ _); (refine RO.h (dm 13 8191) ?_; show RH _ _ _ ⟨_, _, _, _, _, _⟩ _ _ _ _))) | ((with_reducible show Run _ _ (.region 4 _ true) _ _ _); refine Run.regionD (fun i => false) rfl ?_; change RD _ _ _ _ _ _ 12 (dm 12 0) _ _) | ((with_reducible show RD _ _ 4 _ _ _ _ _ _ _); first | ((with_reducible show RD _ _ _ _ _ _ _ (dm 12 0) _ _); refine RD.tk 0 (dm 12 3102) (dm 12 1) (hK := ?_)) | ((with_reducible show RD _ _ _ _ _ _ _ (dm 12 1) _ _); refine RD.tk 1 (dm 12 3100) (dm 12 3) (hK := ?_)) | ((with_reducible show RD _ _ _ _ _ _ _ (dm 12 3) _ _); refine RD.tk 2 (dm 12 3096) (dm 12 7) (hK := ?_)) | ((with_reducible show RD _ _ _ _ _ _ _ (dm 12 7) _ _); refine RD.tk 3 (dm 12 3088) (dm 12 15) (hK := ?_)) | ((with_reducible show RD _ _ _ _ _ _ _ (dm 12 15) _ _); refine RD.tk 4 (dm 12 3072) (dm 12 31) (hK := ?_)) | ((with_reducible show RD _ _ _ _ _ _ _ (dm 12 31) _ _); refine RD.tk 5 (dm 12 4032) (dm 12 63) (hK := ?_)) | ((with_reducible show RD _ _ _ _ _ _ _ (dm 12 63) _ _); refine RD.tk 6 (dm 12 3968) (dm 12 127) (hK := ?_)) | ((with_reducible show RD _ _ _ _ _ _ _ (dm 12 127) _ _); refine RD.tk 7 (dm 12 3840) (dm 12 255) (hK := ?_)) | ((with_reducible show RD _ _ _ _ _ _ _ (dm 12 255) _ _); refine RD.tk 8 (dm 12 3584) (dm 12 511) (hK := ?_)) | ((with_reducible show RD _ _ _ _ _ _ _ (dm 12 511) _ _); refine RD.a1 9 ?_) | ((with_reducible show RD _ _ _ _ _ _ _ (dm 12 1023) _ _); refine RD.tk 10 (dm 12 2048) (dm 12 2047) (hK := ?_)) | ((with_reducible show RD _ _ _ _ _ _ _ (dm 12 2047) _ _); refine RD.tk 11 (dm 12 0) (dm 12 4095) (hK := ?_)) | ((with_reducible show RD _ _ _ _ _ _ 0 _ _ _); refine RD.done (by kernel_rfl) ?_)) | ((with_reducible show RO _ _ 4 _ _ _ _ _ _ _ _); ((with_reducible show RO _ _ _ _ _ _ _ (dm 12 511) 9 _ _); (refine RO.cP (dm 12 1023) Try.call54 ?_; refine ⟨_, mostTuples_c _ _ (by omega), ?_⟩; rintro _ _ ⟨rfl, rfl⟩))) | ((with_reducible show RH _ _ _ ⟨some 7, .box _ _, _, _, _, _⟩ _ _ _ _); (refine RH.boxAgg rfl rfl ?_; rintro _ _ ⟨b7, rfl, rfl⟩)) | ((with_reducible show RH _ _ _ ⟨_, .call ⟨.value (.func 52), _, _⟩, _, _, _, _⟩ _ _ _ _); refine RH.cW Try.call52 ?_; refine ⟨_, _, _, (by repeat (first | exact Pick.nil | (apply Pick.cons; (with_reducible repeat (first | exact Rem.head | apply Rem.tail))))), add_c b bm n os k s L (applyT n f.2 A k) (by omega) (by omega) hbt hbL, ?_⟩; rintro _ _ ⟨s41, rfl, rfl⟩; refine RL.nm ?_) | ((with_reducible show RH _ _ _ _ _ _ _ _); refine RH.val (hK := ?_)) | (with_reducible show RL _ _ _ (_ :: _) _ _ _; first | refine RL.guardYes rfl rfl rfl rfl ?_ | refine RL.guardNoS rfl rfl rfl rfl rfl rfl ?_ | refine RL.splitD rfl rfl rfl (fun h => ?_) (fun h => ?_) | refine RL.split rfl rfl rfl (fun h => ?_) (fun h => ?_)) | (with_reducible first | refine Run.seq ?_ | refine Run.region ?_ | refine Run.block ?_ | refine Run.skip ?_ | refine Run.ret ?_) | (with_reducible show Run _ _ (.cond _ _ _) _ _ _; first | refine Run.condT rfl ?_ | refine Run.condF rfl ?_ | refine Run.condD rfl (fun h => ?_) (fun h => ?_)) | (with_reducible first | refine seqN (K := Run _ _ _ _) ?_ | refine seqR ?_))
      all_goals first
        | (exfalso; omega)
        | (exfalso; rcases hfr with h | h <;> simp_all; done)
        | (exfalso; rcases hfr with h | h <;> simp_all <;> omega)
        | (refine ⟨eA, _, [spanH b bm n os k s41, hsl tRow (vsv s41) (addT L (applyT n f.2 A k)), hmapI bm (kvL (addT L (applyT n f.2 A k)) 0), harr ba 1 (fun t : List Int => [vsl 1 (fun x : Int => [vint x]) t]) A (3 * 1)], resA, ?_, ?_⟩
           · exact SEnt.ch chA
           · exact ⟨_, _, s41, rfl, rfl, addT_pre _ _, hp.add hclo, fun h => by simp only [decide_eq_false_iff_not] at h; omega, fun h => ⟨by simp only [decide_eq_true_eq] at h; omega, hcov⟩⟩)
    · have hcov : Cov n k f A M old fr L := Cov.leaf hA3 fun h => (hfr h).elim
      refine Spec.of_run2 (n := 80) Try.func55 rfl Try.results55 Try.ntmps55 rfl ?_
      repeat' (first | (with_reducible first | refine RL.done ?_ | refine RD.app0 ?_) | (with_reducible refine RL.wanted ?_ ?_; exact rfl) | ((with_reducible show Run _ _ (.region 3 _ true) _ _ _); refine Run.regionD (fun i => false) rfl ?_; change RD _ _ _ _ _ _ 13 (dm 13 0) _ _) | ((with_reducible show RD _ _ 3 _ _ _ _ _ _ _); first | ((with_reducible show RD _ _ _ _ _ _ _ (dm 13 0) _ _); refine RD.tk 0 (dm 13 4096) (dm 13 1) (hK := ?_)) | ((with_reducible show RD _ _ _ _ _ _ _ (dm 13 1) _ _); refine RD.tk 1 (dm 13 6172) (dm 13 3) (hK := ?_)) | ((with_reducible show RD _ _ _ _ _ _ _ (dm 13 3) _ _); refine RD.tk 2 (dm 13 6168) (dm 13 7) (hK := ?_)) | ((with_reducible show RD _ _ _ _ _ _ _ (dm 13 7) _ _); refine RD.tk 3 (dm 13 6160) (dm 13 15) (hK := ?_)) | ((with_reducible show RD _ _ _ _ _ _ _ (dm 13 15) _ _); refine RD.tk 4 (dm 13 6144) (dm 13 31) (hK := ?_)) | ((with_reducible show RD _ _ _ _ _ _ _ (dm 13 31) _ _); refine RD.tk 5 (dm 13 6144) (dm 13 63) (hK := ?_)) | ((with_reducible show RD _ _ _ _ _ _ _ (dm 13 63) _ _); refine RD.tk 6 (dm 13 7040) (dm 13 127) (hK := ?_)) | ((with_reducible show RD _ _ _ _ _ _ _ (dm 13 127) _ _); refine RD.tk 7 (dm 13 6912) (dm 13 255) (hK := ?_)) | ((with_reducible show RD _ _ _ _ _ _ _ (dm 13 255) _ _); refine RD.tk 8 (dm 13 6656) (dm 13 511) (hK := ?_)) | ((with_reducible show RD _ _ _ _ _ _ _ (dm 13 511) _ _); refine RD.tk 9 (dm 13 6144) (dm 13 1023) (hK := ?_)) | ((with_reducible show RD _ _ _ _ _ _ _ (dm 13 1023) _ _); refine RD.tk 10 (dm 13 6144) (dm 13 2047) (hK := ?_)) | ((with_reducible show RD _ _ _ _ _ _ _ (dm 13 2047) _ _); refine RD.a1 11 ?_)) | ((with_reducible show Run _ _ (.region 4 _ true) _ _ _); refine Run.regionD (fun i => false) rfl ?_; change RD _ _ _ _ _ _ 12 (dm 12 0) _ _) | ((with_reducible show RD _ _ 4 _ _ _ _ _ _ _); first | ((with_reducible show RD _ _ _ _ _ _ _ (dm 12 0) _ _); refine RD.tk 0 (dm 12 3102) (dm 12 1) (hK := ?_)) | ((with_reducible show RD _ _ _ _ _ _ _ (dm 12 1) _ _); refine RD.tk 1 (dm 12 3100) (dm 12 3) (hK := ?_)) | ((with_reducible show RD _ _ _ _ _ _ _ (dm 12 3) _ _); refine RD.tk 2 (dm 12 3096) (dm 12 7) (hK := ?_)) | ((with_reducible show RD _ _ _ _ _ _ _ (dm 12 7) _ _); refine RD.tk 3 (dm 12 3088) (dm 12 15) (hK := ?_)) | ((with_reducible show RD _ _ _ _ _ _ _ (dm 12 15) _ _); refine RD.tk 4 (dm 12 3072) (dm 12 31) (hK := ?_)) | ((with_reducible show RD _ _ _ _ _ _ _ (dm 12 31) _ _); refine RD.tk 5 (dm 12 4032) (dm 12 63) (hK := ?_)) | ((with_reducible show RD _ _ _ _ _ _ _ (dm 12 63) _ _); refine RD.tk 6 (dm 12 3968) (dm 12 127) (hK := ?_)) | ((with_reducible show RD _ _ _ _ _ _ _ (dm 12 127) _ _); refine RD.tk 7 (dm 12 3840) (dm 12 255) (hK := ?_)) | ((with_reducible show RD _ _ _ _ _ _ _ (dm 12 255) _ _); refine RD.tk 8 (dm 12 3584) (dm 12 511) (hK := ?_)) | ((with_reducible show RD _ _ _ _ _ _ _ (dm 12 511) _ _); refine RD.a1 9 ?_) | ((with_reducible show RD _ _ _ _ _ _ _ (dm 12 1023) _ _); refine RD.tk 10 (dm 12 2048) (dm 12 2047) (hK := ?_)) | ((with_reducible show RD _ _ _ _ _ _ _ (dm 12 2047) _ _); refine RD.tk 11 (dm 12 0) (dm 12 4095) (hK := ?_)) | ((with_reducible show RD _ _ _ _ _ _ 0 _ _ _); refine RD.done (by kernel_rfl) ?_)) | ((with_reducible show RO _ _ 4 _ _ _ _ _ _ _ _); ((with_reducible show RO _ _ _ _ _ _ _ (dm 12 511) 9 _ _); (refine RO.cP (dm 12 1023) Try.call54 ?_; refine ⟨_, mostTuples_c _ _ (by omega), ?_⟩; rintro _ _ ⟨rfl, rfl⟩))) | ((with_reducible show RH _ _ _ ⟨some 7, .box _ _, _, _, _, _⟩ _ _ _ _); (refine RH.boxAgg rfl rfl ?_; rintro _ _ ⟨b7, rfl, rfl⟩)) | ((with_reducible show RH _ _ _ _ _ _ _ _); refine RH.val (hK := ?_)) | (with_reducible show RL _ _ _ (_ :: _) _ _ _; first | refine RL.guardYes rfl rfl rfl rfl ?_ | refine RL.guardNoS rfl rfl rfl rfl rfl rfl ?_ | refine RL.splitD rfl rfl rfl (fun h => ?_) (fun h => ?_) | refine RL.split rfl rfl rfl (fun h => ?_) (fun h => ?_)) | (with_reducible first | refine Run.seq ?_ | refine Run.region ?_ | refine Run.block ?_ | refine Run.skip ?_ | refine Run.ret ?_) | (with_reducible show Run _ _ (.cond _ _ _) _ _ _; first | refine Run.condT rfl ?_ | refine Run.condF rfl ?_ | refine Run.condD rfl (fun h => ?_) (fun h => ?_)) | (with_reducible first | refine seqN (K := Run _ _ _ _) ?_ | refine seqR ?_))
      all_goals first
        | (exfalso; omega)
        | (exfalso; apply hfr; simp_all; done)
        | (exfalso; apply hfr; simp_all; omega)
        | (refine ⟨eA, _, [spanH b bm n os k s, hsl tRow (vsv s) L, hmapI bm (kvL L 0), harr ba 1 (fun t : List Int => [vsl 1 (fun x : Int => [vint x]) t]) A (3 * 1)], resA, ?_, ?_⟩
           · exact SEnt.ch chA
           · exact ⟨_, _, s, rfl, rfl, List.prefix_refl _, hp, fun h => by simp only [decide_eq_false_iff_not] at h; omega, fun h => ⟨by simp only [decide_eq_true_eq] at h; omega, hcov⟩⟩)
  | succ d ih =>
    intro A la fr s L hla hd hA hp hl hM
    subst hla
    refine Spec.of_run2 (n := 80) Try.func55 rfl Try.results55 Try.ntmps55 rfl ?_
    repeat' (first | (with_reducible refine RL.done ?_) | (with_reducible refine RL.wanted ?_ ?_; exact rfl) | ((with_reducible show RH _ _ _ ⟨some 7, .box _ _, _, _, _, _⟩ _ _ _ _); (refine RH.boxAgg rfl rfl ?_; rintro _ _ ⟨b7, rfl, rfl⟩)) | ((with_reducible show RH _ _ _ _ _ _ _ _); refine RH.val (hK := ?_)) | (with_reducible show RL _ _ _ (_ :: _) _ _ _; first | refine RL.guardYes rfl rfl rfl rfl ?_ | refine RL.guardNoS rfl rfl rfl rfl rfl rfl ?_ | refine RL.splitD rfl rfl rfl (fun h => ?_) (fun h => ?_) | refine RL.split rfl rfl rfl (fun h => ?_) (fun h => ?_)) | (with_reducible first | refine Run.seq ?_ | refine Run.region ?_ | refine Run.block ?_ | refine Run.skip ?_) | (with_reducible show Run _ _ (.cond _ _ _) _ _ _; first | refine Run.condT rfl ?_ | refine Run.condF rfl ?_ | refine Run.condD rfl (fun h => ?_) (fun h => ?_)) | (with_reducible refine seqN (K := Run _ _ _ _) ?_))
    all_goals first
      | (exfalso; omega)
      | skip
    refine Run.loop (α := Nat × Sv × List (List Int)) (fun z => [(0, vptr b 0), (2, vsb ba A.length 3), (3, vint (old : Int)), (4, vint (M.length : Int)), (5, vbool fr), (7, vptr b7 0), (13, vint (z.1 : Int))])
      (fun z => [spanH b bm n os k z.2.1, hsl tRow (vsv z.2.1) z.2.2, hmapI bm (kvL z.2.2 0), harr ba 1 (fun t : List Int => [vsl 1 (fun x : Int => [vint x]) t]) A (3 * 1), hcells b7 [vint f.1, vsl 1 (fun x : Int => [vint x]) f.2]])
      (fun z => z.1 ≤ M.length ∧ L <+: z.2.2 ∧ NewPre n os k G z.2.2 ∧ z.2.2.length ≤ mostV os ∧ ∀ j (hj : j < M.length), j < z.1 → Cov n k f (A ++ [M[j]]) M old (fr || decide (old ≤ j)) z.2.2)
      (fun z => M.length - z.1) (0, s, L) ⟨Nat.zero_le _, List.prefix_refl _, hp, hl, fun j _ h => by simp at h⟩ (Ent.of slA chA) ?_
    rintro ⟨i, s1, L1⟩ ⟨hi, hpre, hp1, hl1, hcov⟩
    dsimp only at hi hpre hp1 hl1 hcov ⊢
    rcases Nat.lt_or_eq_of_le hi with h9 | h9
    · obtain ⟨hj1, he1⟩ := pre_at (hM.trans hpre) h9
      have hA2 : ∀ u ∈ A ++ [L1[i]], Clo n os k G u := fun u hu => by
        rcases List.mem_append.1 hu with hu | hu
        · exact hA u hu
        · rw [List.mem_singleton.1 hu]; exact hp1.clo _ (List.getElem_mem _)
      repeat' (first | (with_reducible refine RL.done ?_) | (with_reducible refine RL.wanted ?_ ?_; exact rfl) | ((with_reducible show Run _ _ (.region 8 _ true) _ _ _); refine Run.regionD (fun i => i == 11 || i == 20) rfl ?_; change RD _ _ _ _ _ _ 22 (dm 22 0) _ _) | ((with_reducible show RD _ _ 8 _ _ _ _ _ _ _); first | ((with_reducible show RD _ _ _ _ _ _ _ (dm 22 0) _ _); refine RD.tk 2 (dm 22 4163584) (dm 22 4) (hK := ?_)) | ((with_reducible show RD _ _ _ _ _ _ _ (dm 22 4) _ _); refine RD.tk 3 (dm 22 4165488) (dm 22 12) (hK := ?_)) | ((with_reducible show RD _ _ _ _ _ _ _ (dm 22 12) _ _); refine RD.tk 4 (dm 22 4165472) (dm 22 28) (hK := ?_)) | ((with_reducible show RD _ _ _ _ _ _ _ (dm 22 28) _ _); refine RD.tk 5 (dm 22 4165440) (dm 22 60) (hK := ?_)) | ((with_reducible show RD _ _ _ _ _ _ _ (dm 22 60) _ _); refine RD.tk 6 (dm 22 4165376) (dm 22 124) (hK := ?_)) | ((with_reducible show RD _ _ _ _ _ _ _ (dm 22 124) _ _); refine RD.tk 7 (dm 22 4165376) (dm 22 252) (hK := ?_)) | ((with_reducible show RD _ _ _ _ _ _ _ (dm 22 252) _ _); refine RD.tk 8 (dm 22 4165120) (dm 22 508) (hK := ?_)) | ((with_reducible show RD _ _ _ _ _ _ _ (dm 22 508) _ _); refine RD.tk 9 (dm 22 4164608) (dm 22 1020) (hK := ?_)) | ((with_reducible show RD _ _ _ _ _ _ _ (dm 22 1020) _ _); refine RD.mv 0 (dm 22 3145728) (dm 22 1021) (hK := ?_)) | ((with_reducible show RD _ _ _ _ _ _ _ (dm 22 1021) _ _); refine RD.mv 12 (dm 22 3145728) (dm 22 5117) (hK := ?_)) | ((with_reducible show RD _ _ _ _ _ _ _ (dm 22 5117) _ _); refine RD.mv 13 (dm 22 3145728) (dm 22 13309) (hK := ?_)) | ((with_reducible show RD _ _ _ _ _ _ _ (dm 22 13309) _ _); refine RD.mv 14 (dm 22 4161536) (dm 22 29693) (hK := ?_)) | ((with_reducible show RD _ _ _ _ _ _ _ (dm 22 29693) _ _); refine RD.a2 1 10 ?_ ?_) | ((with_reducible show RD _ _ _ _ _ _ _ (dm 22 29695) _ _); refine RD.a1 10 ?_) | ((with_reducible show RD _ _ _ _ _ _ _ (dm 22 30717) _ _); refine RD.a2 1 11 ?_ ?_) | ((with_reducible show RD _ _ _ _ _ _ _ (dm 22 30719) _ _); refine RD.a1 11 ?_) | ((with_reducible show RD _ _ _ _ _ _ _ (dm 22 32765) _ _); refine RD.tk 1 (dm 22 3145728) (dm 22 32767) (hK := ?_)) | ((with_reducible show RD _ _ _ _ _ _ _ (dm 22 32767) _ _); refine RD.tk 15 (dm 22 4128768) (dm 22 65535) (hK := ?_)) | ((with_reducible show RD _ _ _ _ _ _ _ (dm 22 65535) _ _); first | refine RD.tk 16 (dm 22 3932160) (dm 22 131071) (hK := ?_) | refine RD.sk 16 (dm 22 3932160) (dm 22 131071) (hK := ?_) | refine RD.sp (i := 16) (fun h => ?_) (fun h => ?_)) | ((with_reducible show RD _ _ _ _ _ _ _ (dm 22 131071) _ _); first | refine RD.tk 17 (dm 22 3932160) (dm 22 262143) (hK := ?_) | refine RD.sk 17 (dm 22 3932160) (dm 22 262143) (hK := ?_)) | ((with_reducible show RD _ _ _ _ _ _ _ (dm 22 262143) _ _); first | refine RD.tk 18 (dm 22 3670016) (dm 22 524287) (hK := ?_) | refine RD.sk 18 (dm 22 3670016) (dm 22 524287) (hK := ?_)) | ((with_reducible show RD _ _ _ _ _ _ _ (dm 22 524287) _ _); refine RD.tk 19 (dm 22 3145728) (dm 22 1048575) (hK := ?_)) | ((with_reducible show RD _ _ _ _ _ _ _ (dm 22 1048575) _ _); refine RD.a1 20 ?_) | ((with_reducible show RD _ _ _ _ _ _ _ (dm 22 2097151) _ _); refine RD.tk 21 (dm 22 0) (dm 22 4194303) (hK := ?_)) | ((with_reducible show RD _ _ _ _ _ _ 0 _ _ _); refine RD.done (by kernel_rfl) ?_)) | ((with_reducible show RO _ _ 8 _ _ _ _ _ _ _ _); first | ((with_reducible show RO _ _ _ _ _ _ _ (dm 22 29693) 1 _ _); refine RO.v (dm 22 29695) (hK := ?_)) | ((with_reducible show RO _ _ _ _ _ _ _ (dm 22 29693) 10 _ _); (refine RO.eS (dm 22 30717) (hv := by show EOpS _ _ _ _ ⟨_, .buildSlice _ _ _, _, _, _, _⟩ _; exact EOpS.slit (fun t : List Int => [vsl 1 (fun x : Int => [vint x]) t]) _ (fun _ _ => rfl) (by ((repeat (first | exact Elts.nil | (apply Elts.cons; exact rfl; exact CellsOf.one))); done)) rfl rfl) (h := ?_); rintro _ _ ⟨b68, rfl, rfl⟩)) | ((with_reducible show RO _ _ _ _ _ _ _ (dm 22 29695) 10 _ _); (refine RO.eS (dm 22 30719) (hv := by show EOpS _ _ _ _ ⟨_, .buildSlice _ _ _, _, _, _, _⟩ _; exact EOpS.slit (fun t : List Int => [vsl 1 (fun x : Int => [vint x]) t]) _ (fun _ _ => rfl) (by ((repeat (first | exact Elts.nil | (apply Elts.cons; exact rfl; exact CellsOf.one))); done)) rfl rfl) (h := ?_); rintro _ _ ⟨b68, rfl, rfl⟩)) | ((with_reducible show RO _ _ _ _ _ _ _ (dm 22 30717) 1 _ _); refine RO.v (dm 22 30719) (hK := ?_)) | ((with_reducible show RO _ _ _ _ _ _ _ (dm 22 30717) 11 _ _); (refine RO.h (dm 22 32765) ?_; show RH _ _ _ ⟨_, _, _, _, _, _⟩ _ _ _ _)) | ((with_reducible show RO _ _ _ _ _ _ _ (dm 22 30719) 11 _ _); (refine RO.h (dm 22 32767) ?_; show RH _ _ _ ⟨_, _, _, _, _, _⟩ _ _ _ _)) | ((with_reducible show RO _ _ _ _ _ _ _ (dm 22 1048575) 20 _ _); (refine RO.h (dm 22 2097151) ?_; show RH _ _ _ ⟨_, _, _, _, _, _⟩ _ _ _ _))) | ((with_reducible show RH _ _ _ ⟨_, .call ⟨.builtin .append, _, _⟩, _, _, _, _⟩ _ _ _ _); refine RH.appIn rfl rfl rfl (by ((with_reducible repeat (first | exact Has.head | apply Has.tail)); done)) (by with_reducible repeat (first | exact Plc.head | apply Plc.tail)) rfl rfl (by first | omega | (simp; omega)) (by first | omega | (simp; omega)) (by first | omega | (simp; omega)) ?_; rintro _ _ ⟨rfl, rfl⟩) | ((with_reducible show RH _ _ _ ⟨_, .call ⟨.value (.func 55), _, _⟩, _, _, _, _⟩ _ _ _ _); refine RH.cW Try.call55 ?_; refine ⟨_, _, _, (by repeat (first | exact Pick.nil | (apply Pick.cons; (with_reducible repeat (first | exact Rem.head | apply Rem.tail))))), ih (A ++ [L1[i]]) (A.length + 1) _ s1 L1 (by simp) (by simp; omega) hA2 hp1 hl1 (hM.trans hpre), ?_⟩; rintro _ _ ⟨v, L2, s2, rfl, rfl, hp⟩; refine RL.nm ?_) | ((with_reducible show RH _ _ _ _ _ _ _ _); refine RH.val (hK := ?_)) | (with_reducible first | refine Run.seq ?_ | refine Run.region ?_ | refine Run.block ?_ | refine Run.skip ?_ | refine Run.exit ?_ | refine Run.ret ?_) | (with_reducible show Run _ _ (.cond _ _ _) _ _ _; first | refine Run.condD rfl (fun h => ?_) (fun h => ?_) | refine Run.condNB rfl (fun h => ?_) (fun h => ?_)) | (with_reducible first | refine seqN (K := Run _ _ _ _) ?_ | refine seqE ?_ | refine seqR ?_ | refine blockN ?_ | refine blockR ?_ | refine blockE ?_))
      all_goals first
        | (exfalso; omega)
        | (have hv : v = false := by assumption
           refine ⟨eA, _, [spanH b bm n os k s2, hsl tRow (vsv s2) L2, hmapI bm (kvL L2 0), harr ba 1 (fun t : List Int => [vsl 1 (fun x : Int => [vint x]) t]) A (3 * 1)], resA, ?_, ?_⟩
           · exact (SEnt.pick (B := [harr ba 1 (fun t : List Int => [vsl 1 (fun x : Int => [vint x]) t]) (A ++ [L1[i]]) (3 * 1)]) (by repeat (first | exact Pick.nil | (apply Pick.cons; (repeat (first | exact Rem.head | apply Rem.tail)))))).trans ((SEnt.cutArr (List.prefix_append _ _)).trans (SEnt.ch (by repeat (first | exact Ch.nil | refine Ch.same (by repeat (first | exact Rem.head | apply Rem.tail)) ?_))))
           · exact ⟨_, _, s2, rfl, rfl, hpre.trans hp.1, hp.2.1, (fun _ => hp.2.2.1 hv), fun h => by cases h⟩)
        | (have hv : v = true := by assumption
           obtain ⟨hq1, hq2⟩ := hp.2.2.2 hv
           have hfr := hq2.fr (f2 := fr || decide (old ≤ i)) (by first | exact fun _ => rfl | (intro h; simp_all; done) | (intro h; simp_all; omega))
           rw [he1] at hfr
           with_reducible refine seqN ?_
           refine ⟨(i + 1, s2, L2), ⟨by dsimp only; omega, hpre.trans hp.1, hp.2.1, hq1, fun j hj hji => ?_⟩, by dsimp only; omega, ((SEnt.pick (B := [harr ba 1 (fun t : List Int => [vsl 1 (fun x : Int => [vint x]) t]) (A ++ [L1[i]]) (3 * 1)]) (by repeat (first | exact Pick.nil | (apply Pick.cons; (repeat (first | exact Rem.head | apply Rem.tail)))))).trans ((SEnt.cutArr (ys := A) (List.prefix_append _ _)))).ent.trans (Ent.of (by dsimp only; exact slA) (by dsimp only; exact (by repeat (first | exact Ch.nil | refine Ch.same (by repeat (first | exact Rem.head | apply Rem.tail)) ?_))))⟩
           have hji : j < i + 1 := hji
           rcases Nat.lt_or_eq_of_le (Nat.le_of_lt_succ hji) with h8 | h8
           · exact (hcov j hj h8).mono hp.1
           · subst h8; exact hfr)
    · subst h9
      have hcv : Cov n k f A M old fr L1 := Cov.node (by omega) fun j hj => hcov j hj hj
      repeat' (first | (with_reducible refine RL.done ?_) | (with_reducible refine RL.wanted ?_ ?_; exact rfl) | ((with_reducible show RH _ _ _ _ _ _ _ _); refine RH.val (hK := ?_)) | (with_reducible first | refine Run.seq ?_ | refine Run.region ?_ | refine Run.block ?_ | refine Run.skip ?_ | refine Run.exit ?_ | refine Run.ret ?_) | (with_reducible show Run _ _ (.cond _ _ _) _ _ _; refine Run.condD rfl (fun h => ?_) (fun h => ?_)) | (with_reducible first | refine seqN (K := Run _ _ _ _) ?_ | refine seqE ?_ | refine blockE ?_))
      all_goals first
        | (exfalso; omega)
        | (refine ⟨eA, _, [spanH b bm n os k s1, hsl tRow (vsv s1) L1, hmapI bm (kvL L1 0), harr ba 1 (fun t : List Int => [vsl 1 (fun x : Int => [vint x]) t]) A (3 * 1)], resA, ?_, ?_⟩
           · exact SEnt.ch chA
           · exact ⟨_, _, s1, rfl, rfl, hpre, hp1, (fun h => by cases h), fun _ => ⟨hl1, hcv⟩⟩)
end Go.Proofs.Ytemfpennomelaaa

/- The span of tuples: impl.spanOf. Proved for this program; conditions: a valid algebra, tuples of elements. -/
namespace Go.Proofs.Ytemfpennomelaaa
open Go Go.Proofs
set_option linter.unusedVariables false
/-- what impl.spanOf answers -/
def SpanOut (n : Int) (os : List (Int × List Int)) (k : Nat) (G : List (List Int)) (r : VP) (S' : List HP) : Prop :=
  (∃ (L : List (List Int)) (b bm : Nat) (s : Sv), r = vtup [vptr b 0, vbool true] ∧ S' = [spanH b bm n os k s, hsl tRow (vsv s) L, hmapI bm (kvL L 0)] ∧ SpanYes n os k G L) ∨
  (r = vtup [vlit (.pointer none), vbool false] ∧ S' = [] ∧ SpanNo n os k G)
/-- the operations up to a place are covered for the rows of M -/
def CovAll (n : Int) (os : List (Int × List Int)) (k : Nat) (M : List (List Int)) (old j : Nat) (L : List (List Int)) : Prop := ∀ f ∈ os.take j, Cov n k f [] M old false L
theorem CovAll.succ {n : Int} {os : List (Int × List Int)} {k : Nat} {M : List (List Int)} {old j : Nat} {L L' : List (List Int)} (h : CovAll n os k M old j L) (hj : j < os.length) (hl : L <+: L') (h2 : Cov n k os[j] [] M old false L') : CovAll n os k M old (j + 1) L' := fun f hf => by
  rw [List.take_add_one, List.getElem?_eq_getElem hj, List.mem_append] at hf
  rcases hf with hf | hf
  · exact (h f hf).mono hl
  · rw [Option.toList_some, List.mem_singleton] at hf
    subst hf; exact h2
/-- the first rows are closed: their values are in the list -/
def ClosedTo (n : Int) (os : List (Int × List Int)) (k : Nat) (old : Nat) (L : List (List Int)) : Prop := ∀ f ∈ os, ∀ ts : List (List Int), ts.length = f.1.toNat → (∀ u ∈ ts, u ∈ L.take old) → applyT n f.2 ts k ∈ L
theorem closed_round {n : Int} {os : List (Int × List Int)} {k : Nat} {M L : List (List Int)} {old : Nat} {first : Bool} (hops : ∀ f ∈ os, 0 ≤ f.1) (hML : M <+: L) (h0 : first = true → old = 0) (h1 : first = false → ClosedTo n os k old M) (h : CovAll n os k M old os.length L) : ClosedTo n os k M.length L := by
  intro f hf ts hl ht
  have ht2 : ∀ u ∈ ts, u ∈ M := fun u hu => by
    have h2 := ht u hu
    obtain ⟨T, rfl⟩ := hML
    rwa [List.take_left] at h2
  have hc := h f (by rw [List.take_length]; exact hf) ts (by simpa using hl) ht2
  rw [List.nil_append] at hc
  by_cases hn : ∃ u ∈ ts, u ∉ M.take old
  · exact hc (.inr (.inl hn))
  · have ha : ∀ u ∈ ts, u ∈ M.take old := fun u hu => Decidable.byContradiction fun h => hn ⟨u, hu, h⟩
    cases hfi : first with
    | false => exact hML.subset (h1 hfi f hf ts hl ha)
    | true =>
      have ho := h0 hfi
      subst ho
      have hts : ts = [] := by
        cases ts with
        | nil => rfl
        | cons u ts => have := ha u (by simp); simp at this
      subst hts
      exact hc (.inr (.inr ⟨by have := hops f hf; simp at hl; omega, rfl⟩))
theorem applyNew0_c (n : Int) (os : List (Int × List Int)) (k : Nat) (G : List (List Int)) (ha : algB n os = true) (hk : k ≤ 1048576) (hG : ∀ t ∈ G, TupOk n k t) (f : Int × List Int) (hf : f ∈ os) (M : List (List Int)) (old : Nat) (hold : old ≤ 1048576) (b bm ba : Nat) (s : Sv) (L : List (List Int)) (hp : NewPre n os k G L) (hl : L.length ≤ mostV os) (hM : M <+: L) :
    Spec Try.prog 55 [vptr b 0, vagg [vint f.1, vsl 1 (fun x : Int => [vint x]) f.2], vsb ba 0 3, vint (old : Int), vint (M.length : Int), vbool false] [spanH b bm n os k s, hsl tRow (vsv s) L, hmapI bm (kvL L 0), harr ba 1 (fun t : List Int => [vsl 1 (fun x : Int => [vint x]) t]) (List.replicate 3 []) (3 * 1)]
      (fun r S' => ∃ (v : Bool) (L' : List (List Int)) (s' : Sv), r = vbool v ∧ S' = [spanH b bm n os k s', hsl tRow (vsv s') L', hmapI bm (kvL L' 0), harr ba 1 (fun t : List Int => [vsl 1 (fun x : Int => [vint x]) t]) [] (3 * 1)] ∧ NewPost n os k G f [] M old false L L' v) :=
  Spec.pre ((SEnt.pick (.cons (.tail (.tail (.tail .head))) (.cons .head (.cons .head (.cons .head .nil))))).trans ((SEnt.cutArr (List.nil_prefix)).trans (SEnt.pick (.cons (.tail .head) (.cons (.tail .head) (.cons (.tail .head) (.cons .head .nil)))))))
    (applyNew_c n os k G ha hk hG f hf M old hold b bm ba f.1.toNat [] 0 false s L rfl (by simp) (fun u hu => by cases hu) hp hl hM)
set_option maxRecDepth 10000 in
set_option maxHeartbeats 4000000 in
theorem spanOf_c (n : Int) (os : List (Int × List Int)) (k : Nat) (G : List (List Int)) (ha : algB n os = true) (hk : k ≤ 1048576) (hG : ∀ t ∈ G, TupOk n k t) (hg : G.length ≤ 1048576) :
    Spec Try.prog 29 [vagg [vint n, vsl 2 (fun y : Int × (List Int) => [vint y.1, vsl 1 (fun x : Int => [vint x]) y.2]) os], vint (k : Int), vsl 1 (fun t : List Int => [vsl 1 (fun x : Int => [vint x]) t]) G] [] (SpanOut n os k G) := by
  obtain ⟨hn1, hn8, ho4, hops⟩ := algB_at ha
  have hmost := mostV_le os
  have hop0 : ∀ f ∈ os, 0 ≤ f.1 := fun f hf => by
    have h := hops f hf
    simp only [opB, Bool.and_eq_true, decide_eq_true_eq] at h
    exact h.1.1
  refine Spec.of_run2 (n := 72) Try.func29 rfl Try.results29 Try.ntmps29 rfl ?_
  repeat' (first | (with_reducible refine RL.done ?_) | (with_reducible refine RL.wanted ?_ ?_; exact rfl) | ((with_reducible show RH _ _ _ ⟨some 3, .box _ _, _, _, _, _⟩ _ _ _ _); (refine RH.boxAgg rfl rfl ?_; rintro _ _ ⟨b3, rfl, rfl⟩)) | ((with_reducible show RH _ _ _ ⟨some 18, .makeMap _ _, _, _, _, _⟩ _ _ _ _); (refine RH.makeMapI rfl ?_); rintro _ _ ⟨b18, rfl, rfl⟩) | ((with_reducible show RH _ _ _ ⟨some 20, .box _ _, _, _, _, _⟩ _ _ _ _); (refine RH.boxAgg rfl rfl ?_; rintro _ _ ⟨b20, rfl, rfl⟩)) | ((with_reducible show RH _ _ _ _ _ _ _ _); refine RH.val (hK := ?_)) | (with_reducible first | refine Run.seq ?_ | refine Run.region ?_ | refine Run.block ?_) | (with_reducible refine seqN (K := Run _ _ _ _) ?_))
  refine Run.sent (T := [hsl tRow (vsv (none, 0, 0)) [], spanH b20 b18 n os k (none, 0, 0), hmapI b18 [], hcells b3 [vint n, vsl 2 (fun y : Int × (List Int) => [vint y.1, vsl 1 (fun x : Int => [vint x]) y.2]) os]]) ((SEnt.ch (.cons .head rfl (.cons .head rfl (.cons .head rfl .nil)))).trans (SEnt.nil _ _)) ?_
  refine Run.loop (α := Nat × Sv × List (List Int)) (fun z => [(3, vptr b3 0), (8, vptr b20 0), (21, vsl 1 (fun t : List Int => [vsl 1 (fun x : Int => [vint x]) t]) G), (22, vint (G.length : Int)), (23, vint (z.1 : Int))])
    (fun z => [hsl tRow (vsv z.2.1) z.2.2, spanH b20 b18 n os k z.2.1, hmapI b18 (kvL z.2.2 0), hcells b3 [vint n, vsl 2 (fun y : Int × (List Int) => [vint y.1, vsl 1 (fun x : Int => [vint x]) y.2]) os]])
    (fun z => z.1 ≤ G.length ∧ NewPre n os k G z.2.2 ∧ z.2.2.length ≤ z.1 ∧ ∀ t ∈ G.take z.1, t ∈ z.2.2) (fun z => G.length - z.1) (0, (none, 0, 0), []) ⟨Nat.zero_le _, ⟨.nil, fun t h => by cases h⟩, Nat.le_refl _, fun t h => by simp at h⟩ (Ent.of slA .refl) ?_
  rintro ⟨m, s, L⟩ ⟨hm, hp, hlen, hin⟩
  dsimp only at hm hp hlen hin ⊢
  have hbL : ∀ u ∈ L, Byt u := fun u hu => tup_byt hn8 ((hp.clo u hu).ok ha hk hG)
  rcases Nat.lt_or_eq_of_le hm with h9 | h9
  · have htp := hG _ (List.getElem_mem h9)
    have htl := htp.1
    have hbt := tup_byt hn8 htp
    have hle := addT_le L G[m]
    repeat' (first | (with_reducible refine RL.done ?_) | (with_reducible refine RL.wanted ?_ ?_; exact rfl) | ((with_reducible show RH _ _ _ ⟨_, .call ⟨.value (.func 53), _, _⟩, _, _, _, _⟩ _ _ _ _); refine RH.cP Try.call53 ?_; refine ⟨_, clone_c _ (by omega), ?_⟩; rintro _ _ ⟨s29, rfl, rfl⟩; refine RL.app1 ?_; refine RL.frzI ?_) | ((with_reducible show RH _ _ _ ⟨_, .call ⟨.value (.func 52), _, _⟩, _, _, _, _⟩ _ _ _ _); refine RH.cW Try.call52 ?_; refine ⟨_, _, _, (by repeat (first | exact Pick.nil | (apply Pick.cons; (with_reducible repeat (first | exact Rem.head | apply Rem.tail))))), add_c b20 b18 n os k s L (G[m]) (by omega) (by omega) hbt hbL, ?_⟩; rintro _ _ ⟨s30, rfl, rfl⟩; refine RL.nm ?_) | ((with_reducible show RH _ _ _ _ _ _ _ _); refine RH.val (hK := ?_)) | (with_reducible first | refine Run.seq ?_ | refine Run.region ?_ | refine Run.block ?_ | refine Run.skip ?_ | refine Run.exit ?_) | (with_reducible show Run _ _ (.cond _ _ _) _ _ _; refine Run.condD rfl (fun h => ?_) (fun h => ?_)) | (with_reducible first | refine seqN (K := Run _ _ _ _) ?_ | refine seqE ?_ | refine blockN ?_ | refine blockE ?_))
    all_goals first
      | (exfalso; omega)
      | (with_reducible refine seqN ?_
         refine ⟨(m + 1, s30, addT L G[m]), ⟨by dsimp only; omega, hp.add (.gen (List.getElem_mem h9)), by dsimp only; omega, fun t ht => ?_⟩, by dsimp only; omega, Ent.of (by dsimp only; exact slA) (by dsimp only; exact chA)⟩
         have ht : t ∈ G.take (m + 1) := ht
         rw [List.take_add_one, List.getElem?_eq_getElem h9, List.mem_append] at ht
         refine (addT_mem _ _ _).2 ?_
         rcases ht with ht | ht
         · exact .inr (hin t ht)
         · exact .inl (by simpa using ht))
  · subst h9
    rw [List.take_length] at hin
    repeat' (first | (with_reducible first | refine RL.done ?_ | refine RD.app0 ?_) | (with_reducible refine RL.wanted ?_ ?_; exact rfl) | ((with_reducible show Run _ _ (.region 7 _ true) _ _ _); refine Run.regionD (fun i => false) rfl ?_; change RD _ _ _ _ _ _ 8 (dm 8 0) _ _) | ((with_reducible show RD _ _ 7 _ _ _ _ _ _ _); first | ((with_reducible show RD _ _ _ _ _ _ _ (dm 8 0) _ _); refine RD.tk 0 (dm 8 158) (dm 8 1) (hK := ?_)) | ((with_reducible show RD _ _ _ _ _ _ _ (dm 8 1) _ _); refine RD.tk 1 (dm 8 156) (dm 8 3) (hK := ?_)) | ((with_reducible show RD _ _ _ _ _ _ _ (dm 8 3) _ _); refine RD.tk 2 (dm 8 152) (dm 8 7) (hK := ?_)) | ((with_reducible show RD _ _ _ _ _ _ _ (dm 8 7) _ _); refine RD.tk 3 (dm 8 144) (dm 8 15) (hK := ?_)) | ((with_reducible show RD _ _ _ _ _ _ _ (dm 8 15) _ _); refine RD.tk 4 (dm 8 128) (dm 8 31) (hK := ?_)) | ((with_reducible show RD _ _ _ _ _ _ _ (dm 8 31) _ _); refine RD.tk 5 (dm 8 192) (dm 8 63) (hK := ?_)) | ((with_reducible show RD _ _ _ _ _ _ _ (dm 8 63) _ _); refine RD.a1 6 ?_) | ((with_reducible show RD _ _ _ _ _ _ _ (dm 8 127) _ _); refine RD.tk 7 (dm 8 0) (dm 8 255) (hK := ?_)) | ((with_reducible show RD _ _ _ _ _ _ 0 _ _ _); refine RD.done (by kernel_rfl) ?_)) | ((with_reducible show RO _ _ 7 _ _ _ _ _ _ _ _); ((with_reducible show RO _ _ _ _ _ _ _ (dm 8 63) 6 _ _); (refine RO.cP (dm 8 127) Try.call54 ?_; refine ⟨_, mostTuples_c _ _ (by omega), ?_⟩; rintro _ _ ⟨rfl, rfl⟩))) | ((with_reducible show RH _ _ _ _ _ _ _ _); refine RH.val (hK := ?_)) | (with_reducible first | refine Run.seq ?_ | refine Run.region ?_ | refine Run.block ?_ | refine Run.skip ?_ | refine Run.exit ?_ | refine Run.ret ?_) | (with_reducible show Run _ _ (.cond _ _ _) _ _ _; refine Run.condD rfl (fun h => ?_) (fun h => ?_)) | (with_reducible first | refine seqN (K := Run _ _ _ _) ?_ | refine seqE ?_ | refine seqR ?_ | refine blockE ?_))
    all_goals first
      | (exfalso; omega)
      | (have hbig : mostV os < L.length := by omega
         refine ⟨eA, _, [], resA, ?_, ?_⟩
         · exact SEnt.ch .nil
         · exact .inr ⟨rfl, rfl, L, hp.nd, hp.clo, hbig⟩)
      | skip
    have hsm : L.length ≤ mostV os := by omega
    refine Run.loop (α := Nat × Bool × Sv × List (List Int)) (fun z => [(3, vptr b3 0), (8, vptr b20 0), (11, vint (z.1 : Int)), (12, vbool z.2.1)])
      (fun z => [spanH b20 b18 n os k z.2.2.1, hsl tRow (vsv z.2.2.1) z.2.2.2, hmapI b18 (kvL z.2.2.2 0), hcells b3 [vint n, vsl 2 (fun y : Int × (List Int) => [vint y.1, vsl 1 (fun x : Int => [vint x]) y.2]) os]])
      (fun z => NewPre n os k G z.2.2.2 ∧ (∀ t ∈ G, t ∈ z.2.2.2) ∧ z.2.2.2.length ≤ mostV os ∧ z.1 ≤ z.2.2.2.length ∧ (z.2.1 = true → z.1 = 0) ∧ (z.2.1 = false → ClosedTo n os k z.1 z.2.2.2)) (fun z => 2 * (301 - z.1) + (if z.2.1 then 1 else 0)) (0, true, s, L) ⟨hp, hin, hsm, Nat.zero_le _, fun _ => rfl, fun h => by cases h⟩ (Ent.of (by dsimp only; exact slA) (by dsimp only; exact chA)) ?_
    clear hp hin hsm hlen hm hbL
    rintro ⟨old, first, s, M⟩ ⟨hp, hin, hsm, hold, h0, h1⟩
    dsimp only at hp hin hsm hold h0 h1 ⊢
    by_cases hgo : first = true ∨ old < M.length
    · repeat' (first | (with_reducible refine RL.done ?_) | (with_reducible refine RL.wanted ?_ ?_; exact rfl) | ((with_reducible show RH _ _ _ _ _ _ _ _); refine RH.val (hK := ?_)) | (with_reducible show RL _ _ _ (_ :: _) _ _ _; first | refine RL.guardYes rfl rfl rfl rfl ?_ | refine RL.guardNoS rfl rfl rfl rfl rfl rfl ?_ | refine RL.split rfl rfl rfl (fun h => ?_) (fun h => ?_)) | (with_reducible first | refine Run.seq ?_ | refine Run.region ?_ | refine Run.block ?_ | refine Run.skip ?_ | refine Run.exit ?_ | refine Run.ret ?_) | (with_reducible show Run _ _ (.cond _ _ _) _ _ _; first | refine Run.condT rfl ?_ | refine Run.condD rfl (fun h => ?_) (fun h => ?_)) | (with_reducible first | refine seqN (K := Run _ _ _ _) ?_ | refine seqE ?_ | refine blockE ?_))
      all_goals first
        | (exfalso; omega)
        | (exfalso; rcases hgo with h | h <;> simp_all; done)
        | (exfalso; rcases hgo with h | h <;> simp_all <;> omega)
        | (refine Run.loop (α := Nat × Sv × List (List Int)) (fun z => [(3, vptr b3 0), (8, vptr b20 0), (11, vint (old : Int)), (13, vint (M.length : Int)), (56, vsl 2 (fun y : Int × (List Int) => [vint y.1, vsl 1 (fun x : Int => [vint x]) y.2]) os), (57, vint (os.length : Int)), (58, vint (z.1 : Int))])
             (fun z => [spanH b20 b18 n os k z.2.1, hsl tRow (vsv z.2.1) z.2.2, hmapI b18 (kvL z.2.2 0), hcells b3 [vint n, vsl 2 (fun y : Int × (List Int) => [vint y.1, vsl 1 (fun x : Int => [vint x]) y.2]) os]])
             (fun z => z.1 ≤ os.length ∧ M <+: z.2.2 ∧ NewPre n os k G z.2.2 ∧ z.2.2.length ≤ mostV os ∧ CovAll n os k M old z.1 z.2.2) (fun z => os.length - z.1) (0, s, M) ⟨Nat.zero_le _, List.prefix_refl _, hp, hsm, fun f hf => by simp at hf⟩ (Ent.of (by dsimp only; exact slA) (by dsimp only; exact chA)) ?_
           rintro ⟨j, s1, L1⟩ ⟨hj, hM1, hp1, hl1, hcov⟩
           dsimp only at hj hM1 hp1 hl1 hcov ⊢
           rcases Nat.lt_or_eq_of_le hj with h8 | h8
           · repeat' (first | (with_reducible refine RL.done ?_) | (with_reducible refine RL.wanted ?_ ?_; exact rfl) | ((with_reducible show Run _ _ (.region 16 _ true) _ _ _); refine Run.regionD (fun i => i == 5) rfl ?_; change RD _ _ _ _ _ _ 7 (dm 7 0) _ _) | ((with_reducible show RD _ _ 16 _ _ _ _ _ _ _); first | ((with_reducible show RD _ _ _ _ _ _ _ (dm 7 0) _ _); refine RD.tk 0 (dm 7 96) (dm 7 1) (hK := ?_)) | ((with_reducible show RD _ _ _ _ _ _ _ (dm 7 1) _ _); refine RD.tk 1 (dm 7 96) (dm 7 3) (hK := ?_)) | ((with_reducible show RD _ _ _ _ _ _ _ (dm 7 3) _ _); refine RD.tk 3 (dm 7 96) (dm 7 11) (hK := ?_)) | ((with_reducible show RD _ _ _ _ _ _ _ (dm 7 11) _ _); refine RD.tk 4 (dm 7 96) (dm 7 27) (hK := ?_)) | ((with_reducible show RD _ _ _ _ _ _ _ (dm 7 27) _ _); refine RD.a1 2 ?_) | ((with_reducible show RD _ _ _ _ _ _ _ (dm 7 31) _ _); refine RD.a1 5 ?_) | ((with_reducible show RD _ _ _ _ _ _ _ (dm 7 63) _ _); refine RD.tk 6 (dm 7 0) (dm 7 127) (hK := ?_)) | ((with_reducible show RD _ _ _ _ _ _ 0 _ _ _); refine RD.done (by kernel_rfl) ?_)) | ((with_reducible show RO _ _ 16 _ _ _ _ _ _ _ _); first | ((with_reducible show RO _ _ _ _ _ _ _ (dm 7 27) 2 _ _); (refine RO.eS (dm 7 31) (hv := by show EOpS _ _ _ _ ⟨_, .makeSlice _ _ _, _, _, _, _⟩ _; exact EOpS.make (l := 0) (m := 3) (α := List Int) (fun t : List Int => [vsl 1 (fun x : Int => [vint x]) t]) [] row_nil rfl rfl (by omega) (by omega) (by omega)) (h := ?_); rintro _ _ ⟨b64, rfl, rfl⟩)) | ((with_reducible show RO _ _ _ _ _ _ _ (dm 7 31) 5 _ _); (refine RO.h (dm 7 63) ?_; show RH _ _ _ ⟨_, _, _, _, _, _⟩ _ _ _ _))) | ((with_reducible show RH _ _ _ ⟨some 15, .alloc _, _, _, _, _⟩ _ _ _ _); refine RH.alloc rfl ?_; rintro _ _ ⟨b15, rfl, rfl⟩) | ((with_reducible show RH _ _ _ ⟨_, .call ⟨.value (.func 55), _, _⟩, _, _, _, _⟩ _ _ _ _); refine RH.cW Try.call55 ?_; refine ⟨_, _, _, (by repeat (first | exact Pick.nil | (apply Pick.cons; (with_reducible repeat (first | exact Rem.head | apply Rem.tail))))), applyNew0_c n os k G ha hk hG os[j] (List.getElem_mem _) M old (by omega) b20 b18 b64 s1 L1 hp1 hl1 hM1, ?_⟩; rintro _ _ ⟨v, L2, s2, rfl, rfl, hpo⟩; refine RL.nm ?_) | ((with_reducible show RH _ _ _ _ _ _ _ _); first | refine RH.val (hK := ?_) | refine RH.upd (hK := ?_)) | (with_reducible first | refine Run.seq ?_ | refine Run.region ?_ | refine Run.block ?_ | refine Run.skip ?_ | refine Run.exit ?_ | refine Run.ret ?_) | (with_reducible show Run _ _ (.cond _ _ _) _ _ _; first | refine Run.condD rfl (fun h => ?_) (fun h => ?_) | refine Run.condNB rfl (fun h => ?_) (fun h => ?_)) | (with_reducible first | refine seqN (K := Run _ _ _ _) ?_ | refine seqE ?_ | refine seqR ?_ | refine blockN ?_ | refine blockR ?_ | refine blockE ?_))
             all_goals first
               | (exfalso; omega)
               | (have hv : v = false := by assumption
                  refine ⟨eA, _, [], resA, ?_, ?_⟩
                  · exact SEnt.ch .nil
                  · exact .inr ⟨rfl, rfl, L2, hpo.2.1.nd, hpo.2.1.clo, hpo.2.2.1 hv⟩)
               | (have hv : v = true := by assumption
                  obtain ⟨hq1, hq2⟩ := hpo.2.2.2 hv
                  with_reducible refine seqN ?_
                  exact ⟨(j + 1, s2, L2), ⟨by dsimp only; omega, hM1.trans hpo.1, hpo.2.1, hq1, hcov.succ h8 hpo.1 hq2⟩, by dsimp only; omega, Ent.of (by dsimp only; exact slA) (by dsimp only; exact chA)⟩)
           · subst h8
             have hcl := closed_round hop0 hM1 h0 h1 hcov
             have hML := hM1.length_le
             repeat' (first | (with_reducible refine RL.done ?_) | (with_reducible refine RL.wanted ?_ ?_; exact rfl) | ((with_reducible show RH _ _ _ ⟨some 15, .alloc _, _, _, _, _⟩ _ _ _ _); refine RH.alloc rfl ?_; rintro _ _ ⟨b15, rfl, rfl⟩) | ((with_reducible show RH _ _ _ _ _ _ _ _); first | refine RH.val (hK := ?_) | refine RH.upd (hK := ?_)) | (with_reducible first | refine Run.seq ?_ | refine Run.region ?_ | refine Run.block ?_ | refine Run.skip ?_ | refine Run.exit ?_) | (with_reducible show Run _ _ (.cond _ _ _) _ _ _; refine Run.condD rfl (fun h => ?_) (fun h => ?_)) | (with_reducible first | refine seqN (K := Run _ _ _ _) ?_ | refine seqE ?_ | refine blockN ?_ | refine blockE ?_))
             all_goals first
               | (exfalso; omega)
               | (with_reducible refine seqN ?_
                  refine ⟨(M.length, false, s1, L1), ⟨hp1, fun t ht => hM1.subset (hin t ht), hl1, hML, (fun h => by cases h), fun _ => hcl⟩, ?_, Ent.of (by dsimp only; exact slA) (by dsimp only; exact chA)⟩
                  dsimp only
                  cases first with
                  | true => simp only [if_true, Bool.false_eq_true, if_false]; omega
                  | false =>
                    have : old < M.length := by rcases hgo with h | h; cases h; exact h
                    simp only [Bool.false_eq_true, if_false]; omega))
    · have hff : first = false := by cases first with
        | true => exact (hgo (.inl rfl)).elim
        | false => rfl
      have hol : ¬ old < M.length := fun h => hgo (.inr h)
      have hcl := h1 hff
      have hall : ∀ t, t ∈ M ↔ Clo n os k G t := fun t => ⟨hp.clo t, fun h => ClosedU.clo (fun f hf ts hl ht => hcl f hf ts hl (by rw [List.take_of_length_le (by omega)]; exact ht)) hin h⟩
      repeat' (first | (with_reducible refine RL.done ?_) | (with_reducible refine RL.wanted ?_ ?_; exact rfl) | ((with_reducible show RH _ _ _ _ _ _ _ _); refine RH.val (hK := ?_)) | (with_reducible show RL _ _ _ (_ :: _) _ _ _; first | refine RL.guardYes rfl rfl rfl rfl ?_ | refine RL.guardNoS rfl rfl rfl rfl rfl rfl ?_ | refine RL.split rfl rfl rfl (fun h => ?_) (fun h => ?_)) | (with_reducible first | refine Run.seq ?_ | refine Run.region ?_ | refine Run.block ?_ | refine Run.skip ?_ | refine Run.exit ?_ | refine Run.ret ?_) | (with_reducible show Run _ _ (.cond _ _ _) _ _ _; first | refine Run.condT rfl ?_ | refine Run.condD rfl (fun h => ?_) (fun h => ?_)) | (with_reducible first | refine seqN (K := Run _ _ _ _) ?_ | refine seqE ?_ | refine blockE ?_))
      all_goals first
        | (exfalso; omega)
        | (exfalso; simp_all; done)
        | (refine ⟨eA, _, [spanH b20 b18 n os k s, hsl tRow (vsv s) M, hmapI b18 (kvL M 0)], resA, ?_, ?_⟩
           · exact SEnt.ch chA
           · exact .inl ⟨M, b20, b18, s, rfl, rfl, hp.nd, hall, hsm⟩)
end Go.Proofs.Ytemfpennomelaaa
