/- The tables of a span's operations: (*span).valueTables, for lists in any order. Proved for this program; conditions: a valid algebra, the list of all generated tuples. -/
import Derived.Test.YtemfpennomelaaaFtfG
import Derived.Test.YtemfpennomelaaaSpan
namespace Go.Proofs.Ytemfpennomelaaa
open Go Go.Proofs
set_option linter.unusedVariables false
/-- the map holds the index in the list -/
def KvIx (X : List (List Int)) (kv : KV) : Prop := ∀ t ∈ X, kvGet kv (keyS t) = (X.idxOf t : Int)
theorem kvL_at : ∀ (L : List (List Int)) (i j : Nat) (h : j < L.length), (keyS L[j], ((i + j : Nat) : Int)) ∈ kvL L i
  | t :: L, i, 0, _ => by rw [kvL]; exact List.mem_cons_self
  | t :: L, i, j + 1, h => by
    rw [kvL]
    have := kvL_at L (i + 1) j (by simpa using h)
    rw [show i + 1 + j = i + (j + 1) by omega] at this
    exact List.mem_cons_of_mem _ this
theorem keys_nodup {L : List (List Int)} (hn : L.Nodup) (hb : ∀ t ∈ L, Byt t) : (L.map keyS).Nodup := by
  induction L with
  | nil => exact .nil
  | cons t L ih =>
    rw [List.nodup_cons] at hn
    rw [List.map_cons, List.nodup_cons]
    refine ⟨fun h => hn.1 ?_, ih hn.2 fun u hu => hb u (List.mem_cons_of_mem _ hu)⟩
    exact (keyS_mem (hb t List.mem_cons_self) (fun u hu => hb u (List.mem_cons_of_mem _ hu))).1 h
theorem kvL_ix {L : List (List Int)} (hn : L.Nodup) (hb : ∀ t ∈ L, Byt t) : KvIx L (kvL L 0) := fun t ht => by
  obtain ⟨i, hi, rfl⟩ := List.getElem_of_mem ht
  have h1 := kvGet_in (by rw [kvL_keys]; exact keys_nodup hn hb) (kvL_at L 0 i hi)
  rw [h1, idx_get hn hi, Nat.zero_add]
theorem mx_ge : ∀ {os : List (Int × List Int)} {m : Int}, m ≤ maxA os m ∧ ∀ f ∈ os, f.1 ≤ maxA os m
  | [], m => ⟨by simp [maxA], fun f h => by cases h⟩
  | g :: os, m => by
    obtain ⟨h1, h2⟩ := mx_ge (os := os) (m := max m g.1)
    rw [maxA]
    refine ⟨by omega, fun f hf => ?_⟩
    rcases List.mem_cons.1 hf with rfl | hf
    · omega
    · exact h2 f hf
theorem pw_mono {a b : Int} (h0 : 0 ≤ a) (h : a ≤ b) : ∀ k, pw a k ≤ pw b k
  | 0 => by simp [pw]
  | k + 1 => by
    simp only [pw]
    exact Int.mul_le_mul (pw_mono h0 h k) h h0 (pw_nonneg b (by omega) k)
theorem mx_le : ∀ {os : List (Int × List Int)} {m : Int}, m ≤ 3 → (∀ f ∈ os, f.1 ≤ 3) → maxA os m ≤ 3
  | [], m, h, _ => by simpa [maxA] using h
  | g :: os, m, h, ho => by
    have := ho g List.mem_cons_self
    rw [maxA]
    exact mx_le (by omega) fun f hf => ho f (List.mem_cons_of_mem _ hf)
theorem pw_most {os : List (Int × List Int)} {X : List (List Int)} {f : Int × List Int} (hall : ∀ f ∈ os, f.1 ≤ 3) (hf : f ∈ os) (h3 : 0 ≤ f.1 ∧ f.1 ≤ 3) (hX : X.length ≤ mostV os) : pw (X.length : Int) f.1.toNat ≤ 90000 := by
  have hge := (mx_ge (os := os) (m := 0)).2 f hf
  rw [mostV] at hX
  have h12 : f.1 = 0 ∨ f.1 = 1 ∨ f.1 = 2 ∨ f.1 = 3 := by omega
  rcases h12 with e | e | e | e <;> rw [e] at hge ⊢
  · simp [pw]
  · have := pw_mono (a := (X.length : Int)) (b := 300) (by omega) (by split at hX <;> (try split at hX) <;> omega) 1
    exact Int.le_trans this (by decide)
  · have := pw_mono (a := (X.length : Int)) (b := 300) (by omega) (by split at hX <;> (try split at hX) <;> omega) 2
    exact Int.le_trans this (by decide)
  · by_cases h4 : maxA os 0 = 3
    · rw [if_pos h4] at hX
      have := pw_mono (a := (X.length : Int)) (b := 40) (by omega) (by omega) 3
      exact Int.le_trans this (by decide)
    · have hX2 : X.length ≤ 300 := by rw [if_neg h4] at hX; split at hX <;> omega
      exact absurd (Int.le_antisymm (mx_le (by decide) hall) hge) h4
theorem ops_one {n : Int} {os : List (Int × List Int)} {k : Nat} {X : List (List Int)} (hcu : ClosedU n os k X) {f : Int × List Int} (hf : f ∈ os) {i : Nat} (hi : (i : Int) < pw (X.length : Int) f.1.toNat) : 1 ≤ X.length := by
  rcases Nat.eq_zero_or_pos X.length with e | e
  · cases hk : f.1.toNat with
    | zero =>
      have := hcu f hf [] (by rw [hk]; rfl) (fun u hu => by cases hu)
      exact List.length_pos_of_mem this
    | succ q =>
      rw [hk, e] at hi
      simp [pw] at hi
      omega
  · exact e
def opTabX (n : Int) (k : Nat) (X : List (List Int)) (f : Int × List Int) (m : Nat) : List Int := (List.range m).map fun i => (X.idxOf (opV n k f X i) : Int)
theorem opTabX_succ (n : Int) (k : Nat) (X : List (List Int)) (f : Int × List Int) (m : Nat) : opTabX n k X f (m + 1) = opTabX n k X f m ++ [(X.idxOf (opV n k f X m) : Int)] := by
  rw [opTabX, List.range_succ, List.map_append]; rfl
theorem opTabX_length (n : Int) (k : Nat) (X : List (List Int)) (f : Int × List Int) (m : Nat) : (opTabX n k X f m).length = m := by simp [opTabX]
theorem opTabX_set (n : Int) (k : Nat) (X : List (List Int)) (f : Int × List Int) (m size : Nat) (hm : m < size) : (opTabX n k X f m ++ List.replicate (size - m) (0 : Int)).set m (X.idxOf (opV n k f X m) : Int) = opTabX n k X f (m + 1) ++ List.replicate (size - (m + 1)) 0 := by
  have e : size - m = size - (m + 1) + 1 := by omega
  rw [List.set_append_right _ _ (by rw [opTabX_length]; exact Nat.le_refl _), opTabX_length, Nat.sub_self, e, List.replicate_succ, List.set_cons_zero, opTabX_succ, List.append_assoc]; rfl
def tabsX (n : Int) (k : Nat) (X : List (List Int)) (os : List (Int × List Int)) : List (List Int) := os.map fun f => opTabX n k X f (opN f X)
theorem tabsX_succ {n : Int} {k : Nat} {X : List (List Int)} {os : List (Int × List Int)} {j : Nat} (h : j < os.length) : tabsX n k X (os.take (j + 1)) = tabsX n k X (os.take j) ++ [opTabX n k X os[j] (opN os[j] X)] := by
  rw [tabsX, List.take_add_one, List.getElem?_eq_getElem h, List.map_append]; rfl
theorem chosen_pt {xs : List (List Int)} {ns : List Int} {A : List (List Int)} {q : Nat} (hq : q < ns.length) (hA : A.length = ns.length) (hx : (ns[q]).toNat < xs.length) :
    ((chosen xs ns).take q ++ A.drop q).set q (xs[(ns[q]).toNat]) = (chosen xs ns).take (q + 1) ++ A.drop (q + 1) := by
  have hcl : (chosen xs ns).length = ns.length := by simp [chosen]
  have hl : ((chosen xs ns).take q).length = q := by simp [hcl]; omega
  have e : (chosen xs ns)[q]'(by omega) = xs[(ns[q]).toNat] := by simp [chosen, hx]
  rw [List.set_append_right _ _ (by omega), hl, Nat.sub_self, List.drop_eq_getElem_cons (by omega), List.set_cons_zero, List.take_add_one, List.getElem?_eq_getElem (by omega : q < (chosen xs ns).length), e, List.append_assoc]
  rfl
set_option maxRecDepth 10000 in
set_option maxHeartbeats 4000000 in
theorem valueTablesX_c (n : Int) (os : List (Int × List Int)) (m : Nat) (X : List (List Int)) (ha : algB n os = true) (hm64 : m ≤ 64) (htup : ∀ t ∈ X, TupOk n m t) (hcu : ClosedU n os m X) (hX : X.length ≤ mostV os) (bs bm : Nat) (kv : KV) (hkv : KvIx X kv) :
    Spec Try.prog 56 [vptr bs 0] [hcells bs [vint n, vsl 2 (fun y : Int × (List Int) => [vint y.1, vsl 1 (fun x : Int => [vint x]) y.2]) os, vint (m : Int), vsl 1 (fun t : List Int => [vsl 1 (fun x : Int => [vint x]) t]) X, vmap bm], hmapI bm kv]
      (fun r S' => ∃ s : Sv, r = vlit (vsv s) ∧ S' = [hsl (tS tInt) (vsv s) (tabsX n m X os), hcells bs [vint n, vsl 2 (fun y : Int × (List Int) => [vint y.1, vsl 1 (fun x : Int => [vint x]) y.2]) os, vint (m : Int), vsl 1 (fun t : List Int => [vsl 1 (fun x : Int => [vint x]) t]) X, vmap bm]]) := by
  obtain ⟨hn1, hn8, ho4, hops⟩ := algB_at ha
  have hmost := mostV_le os
  have hop3 : ∀ f ∈ os, f.1 ≤ 3 := fun f hf => by
    have h := hops f hf
    simp only [opB, Bool.and_eq_true, decide_eq_true_eq] at h
    exact h.1.2
  refine Spec.of_run2 (n := 92) Try.func56 rfl Try.results56 Try.ntmps56 rfl ?_
  repeat' (first | (with_reducible refine RL.done ?_) | (with_reducible refine RL.wanted ?_ ?_; exact rfl) | ((with_reducible show RH _ _ _ ⟨some 11, .buildSlice _ _ _, _, _, _, _⟩ _ _ _ _); (refine RH.eff rfl rfl (EOpS.e (EOpS.slitV (by ((repeat (first | exact Elts.nil | apply Elts.one1 rfl | apply Elts.agg2 rfl)); done)) (by simp) rfl rfl)) ?_; rintro _ _ ⟨b11, rfl, rfl⟩)) | ((with_reducible show RH _ _ _ _ _ _ _ _); refine RH.val (hK := ?_)) | (with_reducible first | refine Run.seq ?_ | refine Run.region ?_ | refine Run.block ?_) | (with_reducible refine seqN (K := Run _ _ _ _) ?_))
  refine Run.sent (T := [hsl (tS tInt) (vsv (some ⟨b11, 0, none⟩, 0, 0)) [], hcells bs [vint n, vsl 2 (fun y : Int × (List Int) => [vint y.1, vsl 1 (fun x : Int => [vint x]) y.2]) os, vint (m : Int), vsl 1 (fun t : List Int => [vsl 1 (fun x : Int => [vint x]) t]) X, vmap bm], hmapI bm kv]) (SEnt.packNil (tS tInt) rfl) ?_
  refine Run.loop (α := Nat × Sv) (fun z => [(0, vptr bs 0), (3, vlit (vsv z.2)), (16, vsl 2 (fun y : Int × (List Int) => [vint y.1, vsl 1 (fun x : Int => [vint x]) y.2]) os), (17, vint (os.length : Int)), (18, vint (z.1 : Int))])
    (fun z => [hsl (tS tInt) (vsv z.2) (tabsX n m X (os.take z.1)), hcells bs [vint n, vsl 2 (fun y : Int × (List Int) => [vint y.1, vsl 1 (fun x : Int => [vint x]) y.2]) os, vint (m : Int), vsl 1 (fun t : List Int => [vsl 1 (fun x : Int => [vint x]) t]) X, vmap bm], hmapI bm kv])
    (fun z => z.1 ≤ os.length) (fun z => os.length - z.1) (0, (some ⟨b11, 0, none⟩, 0, 0)) (Nat.zero_le _) (Ent.of slA .refl) ?_
  rintro ⟨j, s⟩ hj
  dsimp only at hj ⊢
  have hal : (tabsX n m X (os.take j)).length ≤ 4 := by rw [tabsX, List.length_map, List.length_take]; omega
  rcases Nat.lt_or_eq_of_le hj with hop | h9
  · have hf := List.getElem_mem hop
    have hf3 : 0 ≤ os[j].1 ∧ os[j].1 ≤ 3 := by
      have h := hops _ hf
      simp only [opB, Bool.and_eq_true, decide_eq_true_eq] at h
      exact h.1
    have hkf : ((os[j].1.toNat : Nat) : Int) = os[j].1 := by omega
    have hpow := power_c (X.length : Int) os[j].1.toNat (by omega) (by omega) (by omega)
    rw [hkf] at hpow
    have hpb := pw_most (X := X) hop3 hf hf3 hX
    have hp0 := pw_nonneg (X.length : Int) (by omega) os[j].1.toNat
    have hN : ((opN os[j] X : Nat) : Int) = pw (X.length : Int) os[j].1.toNat := by rw [opN]; omega
    rw [← hN] at hpow
    repeat' (first | (with_reducible first | refine RL.done ?_ | refine RD.app0 ?_) | (with_reducible refine RL.wanted ?_ ?_; exact rfl) | ((with_reducible show RH _ _ _ ⟨some 33, .makeSlice _ _ _, _, _, _, _⟩ _ _ _ _); refine RH.makeZ (α := List Int) rfl (fun t : List Int => [vsl 1 (fun x : Int => [vint x]) t]) [] row_nil rfl rfl (by omega) (by omega) ?_; rintro _ _ ⟨b33, rfl, rfl⟩) | ((with_reducible show Run _ _ (.region 5 _ true) _ _ _); refine Run.regionD (fun i => false) rfl ?_; change RD _ _ _ _ _ _ 10 (dm 10 0) _ _) | ((with_reducible show RD _ _ 5 _ _ _ _ _ _ _); first | ((with_reducible show RD _ _ _ _ _ _ _ (dm 10 0) _ _); refine RD.tk 0 (dm 10 926) (dm 10 1) (hK := ?_)) | ((with_reducible show RD _ _ _ _ _ _ _ (dm 10 1) _ _); refine RD.tk 1 (dm 10 924) (dm 10 3) (hK := ?_)) | ((with_reducible show RD _ _ _ _ _ _ _ (dm 10 3) _ _); refine RD.tk 2 (dm 10 920) (dm 10 7) (hK := ?_)) | ((with_reducible show RD _ _ _ _ _ _ _ (dm 10 7) _ _); refine RD.tk 3 (dm 10 912) (dm 10 15) (hK := ?_)) | ((with_reducible show RD _ _ _ _ _ _ _ (dm 10 15) _ _); refine RD.tk 4 (dm 10 896) (dm 10 31) (hK := ?_)) | ((with_reducible show RD _ _ _ _ _ _ _ (dm 10 31) _ _); refine RD.tk 5 (dm 10 960) (dm 10 63) (hK := ?_)) | ((with_reducible show RD _ _ _ _ _ _ _ (dm 10 63) _ _); refine RD.tk 6 (dm 10 896) (dm 10 127) (hK := ?_)) | ((with_reducible show RD _ _ _ _ _ _ _ (dm 10 127) _ _); refine RD.a1 7 ?_) | ((with_reducible show RD _ _ _ _ _ _ _ (dm 10 255) _ _); refine RD.a1 8 ?_) | ((with_reducible show RD _ _ _ _ _ _ _ (dm 10 511) _ _); refine RD.tk 9 (dm 10 0) (dm 10 1023) (hK := ?_)) | ((with_reducible show RD _ _ _ _ _ _ 0 _ _ _); refine RD.done (by kernel_rfl) ?_)) | ((with_reducible show RO _ _ 5 _ _ _ _ _ _ _ _); first | ((with_reducible show RO _ _ _ _ _ _ _ (dm 10 127) 7 _ _); (refine RO.cP (dm 10 255) Try.call64 ?_; refine ⟨_, hpow, ?_⟩; rintro _ _ ⟨rfl, rfl⟩)) | ((with_reducible show RO _ _ _ _ _ _ _ (dm 10 255) 8 _ _); (refine RO.eS (dm 10 511) (hv := by show EOpS _ _ _ _ ⟨_, .makeSlice _ _ _, _, _, _, _⟩ _; exact EOpS.make (α := Int) (fun x => [vint x]) 0 (fun c => .cons rfl .nil) rfl rfl (by omega) (by omega) (by omega)) (h := ?_); rintro _ _ ⟨b30, rfl, rfl⟩))) | ((with_reducible show RH _ _ _ ⟨some 5, .alloc _, _, _, _, _⟩ _ _ _ _); refine RH.alloc rfl ?_; rintro _ _ ⟨b5, rfl, rfl⟩) | ((with_reducible show RH _ _ _ _ _ _ _ _); first | refine RH.val (hK := ?_) | refine RH.upd (hK := ?_)) | (with_reducible first | refine Run.seq ?_ | refine Run.region ?_ | refine Run.block ?_ | refine Run.skip ?_ | refine Run.exit ?_ | refine Run.ret ?_) | (with_reducible show Run _ _ (.cond _ _ _) _ _ _; refine Run.condD rfl (fun h => ?_) (fun h => ?_)) | (with_reducible first | refine seqN (K := Run _ _ _ _) ?_ | refine seqE ?_ | refine blockE ?_))
    all_goals first
      | (exfalso; omega)
      | skip
    refine Run.loop (α := Nat × List (List Int)) (fun z => [(0, vptr bs 0), (3, vlit (vsv s)), (16, vsl 2 (fun y : Int × (List Int) => [vint y.1, vsl 1 (fun x : Int => [vint x]) y.2]) os), (17, vint (os.length : Int)), (18, vint (j : Int)), (5, vptr b5 0), (6, vsb b30 (opN os[j] X) (opN os[j] X)), (7, vsb b33 os[j].1.toNat os[j].1.toNat), (34, vsb b30 (opN os[j] X) (opN os[j] X)), (35, vint (opN os[j] X : Int)), (36, vint (z.1 : Int))])
      (fun z => [harr b33 1 (fun t : List Int => [vsl 1 (fun x : Int => [vint x]) t]) z.2 (os[j].1.toNat * 1), harr b30 1 (fun x : Int => [vint x]) (opTabX n m X os[j] z.1 ++ List.replicate (opN os[j] X - z.1) (0 : Int)) (opN os[j] X * 1), hcells b5 [vint os[j].1, vsl 1 (fun x : Int => [vint x]) os[j].2], hsl (tS tInt) (vsv s) (tabsX n m X (os.take j)), hcells bs [vint n, vsl 2 (fun y : Int × (List Int) => [vint y.1, vsl 1 (fun x : Int => [vint x]) y.2]) os, vint (m : Int), vsl 1 (fun t : List Int => [vsl 1 (fun x : Int => [vint x]) t]) X, vmap bm], hmapI bm kv])
      (fun z => z.1 ≤ opN os[j] X ∧ z.2.length = os[j].1.toNat) (fun z => opN os[j] X - z.1) (0, List.replicate os[j].1.toNat []) ⟨Nat.zero_le _, by simp⟩ (Ent.of slA (.cons .head rfl (.cons .head (by simp [opTabX]) chA))) ?_
    rintro ⟨i, A⟩ ⟨hi, hA⟩
    dsimp only at hi hA ⊢
    have htl : (opTabX n m X os[j] i ++ List.replicate (opN os[j] X - i) (0 : Int)).length = opN os[j] X := by simp [opTabX_length]; omega
    rcases Nat.lt_or_eq_of_le hi with h8 | h8
    · have hi2 : (i : Int) < pw (X.length : Int) os[j].1.toNat := by omega
      have hnum := low_at hi2
      have hll := lowd_length (i : Int) (X.length : Int) os[j].1.toNat
      have hX1 := ops_one hcu hf hi2
      have hargs := argsAt_c (i : Int) (X.length : Int) os[j].1.toNat (by omega) (by omega) (by omega) (by omega)
      rw [hkf] at hargs
      have hch : ∀ u, u ∈ chosen X (lowd (i : Int) (X.length : Int) os[j].1.toNat) → u ∈ X := fun u hu => by
        obtain ⟨x, hx, rfl⟩ := List.mem_map.1 hu
        rw [List.getD_eq_getElem?_getD, List.getElem?_eq_getElem (hnum x hx).2]
        exact List.getElem_mem _
      have hap : ApOk n os[j].2 (chosen X (lowd (i : Int) (X.length : Int) os[j].1.toNat)) m := ap_ok ha (by omega) hf (by simp [chosen, hll]) (fun w hw => htup _ (hch w hw))
      have hin : applyT n os[j].2 (chosen X (lowd (i : Int) (X.length : Int) os[j].1.toNat)) m ∈ X := hcu _ hf _ (by simp [chosen, hll]) hch
      have hset := opTabX_set n m X os[j] i (opN os[j] X) h8
      rw [opV, ← hkv _ hin] at hset
      repeat' (first | (with_reducible refine RL.done ?_) | (with_reducible refine RL.wanted ?_ ?_; exact rfl) | ((with_reducible show Run _ _ (.region 10 _ true) _ _ _); refine Run.regionD (fun i => false) rfl ?_; change RD _ _ _ _ _ _ 11 (dm 11 0) _ _) | ((with_reducible show RD _ _ 10 _ _ _ _ _ _ _); first | ((with_reducible show RD _ _ _ _ _ _ _ (dm 11 0) _ _); refine RD.tk 0 (dm 11 768) (dm 11 1) (hK := ?_)) | ((with_reducible show RD _ _ _ _ _ _ _ (dm 11 1) _ _); refine RD.tk 1 (dm 11 772) (dm 11 3) (hK := ?_)) | ((with_reducible show RD _ _ _ _ _ _ _ (dm 11 3) _ _); refine RD.tk 2 (dm 11 768) (dm 11 7) (hK := ?_)) | ((with_reducible show RD _ _ _ _ _ _ _ (dm 11 7) _ _); refine RD.tk 3 (dm 11 1008) (dm 11 15) (hK := ?_)) | ((with_reducible show RD _ _ _ _ _ _ _ (dm 11 15) _ _); refine RD.tk 4 (dm 11 992) (dm 11 31) (hK := ?_)) | ((with_reducible show RD _ _ _ _ _ _ _ (dm 11 31) _ _); refine RD.tk 5 (dm 11 960) (dm 11 63) (hK := ?_)) | ((with_reducible show RD _ _ _ _ _ _ _ (dm 11 63) _ _); refine RD.tk 6 (dm 11 896) (dm 11 127) (hK := ?_)) | ((with_reducible show RD _ _ _ _ _ _ _ (dm 11 127) _ _); refine RD.tk 7 (dm 11 768) (dm 11 255) (hK := ?_)) | ((with_reducible show RD _ _ _ _ _ _ _ (dm 11 255) _ _); refine RD.tk 10 (dm 11 0) (dm 11 1279) (hK := ?_)) | ((with_reducible show RD _ _ _ _ _ _ _ (dm 11 1279) _ _); refine RD.a1 8 ?_) | ((with_reducible show RD _ _ _ _ _ _ _ (dm 11 1535) _ _); refine RD.tk 9 (dm 11 0) (dm 11 2047) (hK := ?_)) | ((with_reducible show RD _ _ _ _ _ _ 0 _ _ _); refine RD.done (by kernel_rfl) ?_)) | ((with_reducible show RO _ _ 10 _ _ _ _ _ _ _ _); ((with_reducible show RO _ _ _ _ _ _ _ (dm 11 1279) 8 _ _); (refine RO.cP (dm 11 1535) Try.call65 ?_; refine ⟨_, hargs, ?_⟩; rintro _ _ ⟨s47, rfl, rfl⟩; refine RD.app1 ?_; refine RD.frzI ?_))) | ((with_reducible show RH _ _ _ ⟨some 88, .buildSlice _ _ _, _, _, _, _⟩ _ _ _ _); (refine RH.eff rfl rfl (EOpS.e (EOpS.slitV (by ((repeat (first | exact Elts.nil | apply Elts.one1 rfl | apply Elts.agg2 rfl)); done)) (by simp) rfl rfl)) ?_; rintro _ _ ⟨b88, rfl, rfl⟩)) | ((with_reducible show RH _ _ _ _ _ _ _ _); refine RH.val (hK := ?_)) | (with_reducible first | refine Run.seq ?_ | refine Run.region ?_ | refine Run.block ?_ | refine Run.skip ?_ | refine Run.exit ?_) | (with_reducible show Run _ _ (.cond _ _ _) _ _ _; refine Run.condD rfl (fun h => ?_) (fun h => ?_)) | (with_reducible first | refine seqN (K := Run _ _ _ _) ?_ | refine seqE ?_ | refine blockE ?_))
      all_goals first
        | (exfalso; omega)
        | skip
      refine Run.loop (α := Nat) (fun q => [(0, vptr bs 0), (3, vlit (vsv s)), (16, vsl 2 (fun y : Int × (List Int) => [vint y.1, vsl 1 (fun x : Int => [vint x]) y.2]) os), (17, vint (os.length : Int)), (18, vint (j : Int)), (5, vptr b5 0), (6, vsb b30 (opN os[j] X) (opN os[j] X)), (7, vsb b33 os[j].1.toNat os[j].1.toNat), (34, vsb b30 (opN os[j] X) (opN os[j] X)), (35, vint (opN os[j] X : Int)), (36, vint (i : Int)), (8, vint (i : Int)), (47, vsl 1 (fun x : Int => [vint x]) ((lowd (i : Int) (X.length : Int) os[j].1.toNat))), (48, vint ((lowd (i : Int) (X.length : Int) os[j].1.toNat).length : Int)), (49, vint (q : Int))])
        (fun q => [harr b33 1 (fun t : List Int => [vsl 1 (fun x : Int => [vint x]) t]) ((chosen X (lowd (i : Int) (X.length : Int) os[j].1.toNat)).take q ++ A.drop q) (os[j].1.toNat * 1), harr b30 1 (fun x : Int => [vint x]) (opTabX n m X os[j] i ++ List.replicate (opN os[j] X - i) (0 : Int)) (opN os[j] X * 1), hcells b5 [vint os[j].1, vsl 1 (fun x : Int => [vint x]) os[j].2], hsl (tS tInt) (vsv s) (tabsX n m X (os.take j)), hcells bs [vint n, vsl 2 (fun y : Int × (List Int) => [vint y.1, vsl 1 (fun x : Int => [vint x]) y.2]) os, vint (m : Int), vsl 1 (fun t : List Int => [vsl 1 (fun x : Int => [vint x]) t]) X, vmap bm], hmapI bm kv])
        (fun q => q ≤ (lowd (i : Int) (X.length : Int) os[j].1.toNat).length) (fun q => (lowd (i : Int) (X.length : Int) os[j].1.toNat).length - q) 0 (Nat.zero_le _) (Ent.of slA (.cons .head (by simp) chA)) ?_
      intro q hq
      have hcl2 : (chosen X (lowd (i : Int) (X.length : Int) os[j].1.toNat)).length = os[j].1.toNat := by simp [chosen, hll]
      have hAl : ((chosen X (lowd (i : Int) (X.length : Int) os[j].1.toNat)).take q ++ A.drop q).length = os[j].1.toNat := by simp [hcl2]; omega
      rcases Nat.lt_or_eq_of_le hq with hq9 | hq9
      · have hxq := hnum _ (List.getElem_mem hq9)
        have hput := chosen_pt (xs := X) (A := A) hq9 (by omega) hxq.2
        repeat' (first | (with_reducible refine RL.done ?_) | (with_reducible refine RL.wanted ?_ ?_; exact rfl) | ((with_reducible show RH _ _ _ _ _ _ _ _); first | refine RH.val (hK := ?_) | refine RH.upd (hK := ?_)) | (with_reducible first | refine Run.seq ?_ | refine Run.region ?_ | refine Run.block ?_ | refine Run.skip ?_ | refine Run.exit ?_) | (with_reducible show Run _ _ (.cond _ _ _) _ _ _; refine Run.condD rfl (fun h => ?_) (fun h => ?_)) | (with_reducible first | refine seqN (K := Run _ _ _ _) ?_ | refine seqE ?_ | refine blockN ?_ | refine blockE ?_))
        all_goals first
          | (exfalso; omega)
          | (with_reducible refine seqN ?_
             exact ⟨q + 1, by omega, by omega, Ent.of slA (.cons .head (congrArg (fun ys => harr b33 1 (fun t : List Int => [vsl 1 (fun x : Int => [vint x]) t]) ys (os[j].1.toNat * 1)) hput) chA)⟩)
      · subst hq9
        have hAe : (chosen X (lowd (i : Int) (X.length : Int) os[j].1.toNat)).take (lowd (i : Int) (X.length : Int) os[j].1.toNat).length ++ A.drop (lowd (i : Int) (X.length : Int) os[j].1.toNat).length = chosen X (lowd (i : Int) (X.length : Int) os[j].1.toNat) := by
          rw [List.drop_of_length_le (by omega), List.append_nil, List.take_of_length_le (by omega)]
        rw [hAe] at hAl ⊢
        repeat' (first | (with_reducible first | refine RL.done ?_ | refine RD.app0 ?_) | (with_reducible refine RL.wanted ?_ ?_; exact rfl) | ((with_reducible show Run _ _ (.region 15 _ true) _ _ _); refine Run.regionD (fun i => i == 20) rfl ?_; change RD _ _ _ _ _ _ 21 (dm 21 0) _ _) | ((with_reducible show RD _ _ 15 _ _ _ _ _ _ _); first | ((with_reducible show RD _ _ _ _ _ _ _ (dm 21 0) _ _); refine RD.tk 0 (dm 21 1572864) (dm 21 1) (hK := ?_)) | ((with_reducible show RD _ _ _ _ _ _ _ (dm 21 1) _ _); refine RD.tk 1 (dm 21 1572864) (dm 21 3) (hK := ?_)) | ((with_reducible show RD _ _ _ _ _ _ _ (dm 21 3) _ _); refine RD.tk 2 (dm 21 1835064) (dm 21 7) (hK := ?_)) | ((with_reducible show RD _ _ _ _ _ _ _ (dm 21 7) _ _); refine RD.tk 3 (dm 21 1835056) (dm 21 15) (hK := ?_)) | ((with_reducible show RD _ _ _ _ _ _ _ (dm 21 15) _ _); refine RD.tk 4 (dm 21 1835040) (dm 21 31) (hK := ?_)) | ((with_reducible show RD _ _ _ _ _ _ _ (dm 21 31) _ _); refine RD.tk 5 (dm 21 1835008) (dm 21 63) (hK := ?_)) | ((with_reducible show RD _ _ _ _ _ _ _ (dm 21 63) _ _); refine RD.tk 6 (dm 21 2032512) (dm 21 127) (hK := ?_)) | ((with_reducible show RD _ _ _ _ _ _ _ (dm 21 127) _ _); refine RD.tk 7 (dm 21 2032384) (dm 21 255) (hK := ?_)) | ((with_reducible show RD _ _ _ _ _ _ _ (dm 21 255) _ _); refine RD.tk 8 (dm 21 2032128) (dm 21 511) (hK := ?_)) | ((with_reducible show RD _ _ _ _ _ _ _ (dm 21 511) _ _); refine RD.tk 9 (dm 21 2031616) (dm 21 1023) (hK := ?_)) | ((with_reducible show RD _ _ _ _ _ _ _ (dm 21 1023) _ _); refine RD.tk 10 (dm 21 2031616) (dm 21 2047) (hK := ?_)) | ((with_reducible show RD _ _ _ _ _ _ _ (dm 21 2047) _ _); refine RD.tk 11 (dm 21 2060288) (dm 21 4095) (hK := ?_)) | ((with_reducible show RD _ _ _ _ _ _ _ (dm 21 4095) _ _); refine RD.tk 12 (dm 21 2056192) (dm 21 8191) (hK := ?_)) | ((with_reducible show RD _ _ _ _ _ _ _ (dm 21 8191) _ _); refine RD.tk 13 (dm 21 2048000) (dm 21 16383) (hK := ?_)) | ((with_reducible show RD _ _ _ _ _ _ _ (dm 21 16383) _ _); refine RD.tk 14 (dm 21 2031616) (dm 21 32767) (hK := ?_)) | ((with_reducible show RD _ _ _ _ _ _ _ (dm 21 32767) _ _); refine RD.tk 15 (dm 21 2031616) (dm 21 65535) (hK := ?_)) | ((with_reducible show RD _ _ _ _ _ _ _ (dm 21 65535) _ _); refine RD.a1 16 ?_) | ((with_reducible show RD _ _ _ _ _ _ _ (dm 21 131071) _ _); refine RD.a1 17 ?_) | ((with_reducible show RD _ _ _ _ _ _ _ (dm 21 262143) _ _); refine RD.tk 18 (dm 21 1572864) (dm 21 524287) (hK := ?_)) | ((with_reducible show RD _ _ _ _ _ _ _ (dm 21 524287) _ _); refine RD.tk 19 (dm 21 1048576) (dm 21 1048575) (hK := ?_)) | ((with_reducible show RD _ _ _ _ _ _ _ (dm 21 1048575) _ _); refine RD.a1 20 ?_) | ((with_reducible show RD _ _ _ _ _ _ 0 _ _ _); refine RD.done (by kernel_rfl) ?_)) | ((with_reducible show RO _ _ 15 _ _ _ _ _ _ _ _); first | ((with_reducible show RO _ _ _ _ _ _ _ (dm 21 65535) 16 _ _); (refine RO.cL (dm 21 131071) Try.call63 ?_; apply Exists.intro; apply And.intro; (focus ((repeat (first | exact LVs.nil | (apply LVs.arr; (with_reducible repeat (exact Has.head)); (omega); exact rfl) | apply LVs.agg | apply LVs.refl)); done)); refine ⟨_, applyTuples_c n os[j].1 os os[j].2 (chosen X (lowd (i : Int) (X.length : Int) os[j].1.toNat)) m hap, (by intro r H h; first | (obtain ⟨rfl, rfl⟩ := h; exact ⟨inferInstance, inferInstance⟩) | (obtain ⟨_, rfl, rfl⟩ := h; exact ⟨inferInstance, inferInstance⟩) | (obtain ⟨_, _, rfl, rfl⟩ := h; exact ⟨inferInstance, inferInstance⟩) | (obtain ⟨_, _, rfl, rfl, _⟩ := h; exact ⟨inferInstance, inferInstance⟩)), ?_⟩; rintro _ _ ⟨s81, rfl, rfl⟩; refine RD.app1 ?_; refine RD.frzI ?_)) | ((with_reducible show RO _ _ _ _ _ _ _ (dm 21 131071) 17 _ _); (refine RO.cP (dm 21 262143) Try.call30 ?_; refine ⟨_, keyOf_c (applyT n os[j].2 (chosen X (lowd (i : Int) (X.length : Int) os[j].1.toNat)) m) (by rw [applyT_length]; omega), ?_⟩; rintro _ _ ⟨rfl, rfl⟩)) | ((with_reducible show RO _ _ _ _ _ _ _ (dm 21 1048575) 20 _ _); (refine RO.h (dm 21 2097151) ?_; show RH _ _ _ ⟨_, _, _, _, _, _⟩ _ _ _ _))) | ((with_reducible show RH _ _ _ _ _ _ _ _); first | refine RH.val (hK := ?_) | refine RH.upd (hK := ?_)) | (with_reducible first | refine Run.seq ?_ | refine Run.region ?_ | refine Run.block ?_ | refine Run.skip ?_ | refine Run.exit ?_) | (with_reducible show Run _ _ (.cond _ _ _) _ _ _; refine Run.condD rfl (fun h => ?_) (fun h => ?_)) | (with_reducible first | refine seqN (K := Run _ _ _ _) ?_ | refine seqE ?_ | refine blockN ?_ | refine blockE ?_))
        all_goals first
          | (exfalso; omega)
          | (with_reducible refine seqN ?_
             exact ⟨(i + 1, chosen X (lowd (i : Int) (X.length : Int) os[j].1.toNat)), ⟨by dsimp only; omega, hcl2⟩, by dsimp only; omega, Ent.of (by dsimp only; exact slA) (.cons (by ((with_reducible repeat (first | exact Rem.head | apply Rem.tail)); done)) rfl (.cons (by ((with_reducible repeat (first | exact Rem.head | apply Rem.tail)); done)) (congrArg (fun ys => harr b30 1 (fun x : Int => [vint x]) ys (opN os[j] X * 1)) hset) chA))⟩)
    · subst h8
      have hd := tabsX_succ (n := n) (k := m) (X := X) hop
      refine Run.sent (T := [hsl tInt (.slice (some ⟨b30, 0, none⟩) (opN os[j] X) (opN os[j] X)) (opTabX n m X os[j] (opN os[j] X)), hsl (tS tInt) (vsv s) (tabsX n m X (os.take j)), hcells bs [vint n, vsl 2 (fun y : Int × (List Int) => [vint y.1, vsl 1 (fun x : Int => [vint x]) y.2]) os, vint (m : Int), vsl 1 (fun t : List Int => [vsl 1 (fun x : Int => [vint x]) t]) X, vmap bm], hmapI bm kv])
        ((SEnt.ch (T := [harr b30 1 (fun x : Int => [vint x]) (opTabX n m X os[j] (opN os[j] X)) (opN os[j] X * 1), hsl (tS tInt) (vsv s) (tabsX n m X (os.take j)), hcells bs [vint n, vsl 2 (fun y : Int × (List Int) => [vint y.1, vsl 1 (fun x : Int => [vint x]) y.2]) os, vint (m : Int), vsl 1 (fun t : List Int => [vsl 1 (fun x : Int => [vint x]) t]) X, vmap bm], hmapI bm kv]) (.cons (.tail .head) (by rw [Nat.sub_self, List.replicate_zero, List.append_nil]) chA)).trans (SEnt.pack (fun _ => rfl) (opTabX_length n m X os[j] _).symm)) ?_
      repeat' (first | (with_reducible refine RL.done ?_) | (with_reducible refine RL.wanted ?_ ?_; exact rfl) | ((with_reducible show RH _ _ _ ⟨some 88, .buildSlice _ _ _, _, _, _, _⟩ _ _ _ _); (refine RH.eff rfl rfl (EOpS.e (EOpS.slitV (by ((repeat (first | exact Elts.nil | apply Elts.one1 rfl | apply Elts.agg2 rfl)); done)) (by simp) rfl rfl)) ?_; rintro _ _ ⟨b88, rfl, rfl⟩)) | ((with_reducible show RH _ _ _ ⟨_, .call ⟨.builtin .append, _, _⟩, _, _, _, _⟩ _ _ _ _); (refine RH.appR rfl rfl rfl (by repeat (first | exact Pick.nil | (apply Pick.cons; (with_reducible repeat (first | exact Rem.head | apply Rem.tail))))) (by first | omega | (simp; omega)) (by first | omega | (simp; omega)) ?_); rintro _ _ ⟨s, rfl, rfl⟩) | ((with_reducible show RH _ _ _ _ _ _ _ _); refine RH.val (hK := ?_)) | (with_reducible first | refine Run.seq ?_ | refine Run.region ?_ | refine Run.block ?_ | refine Run.skip ?_ | refine Run.exit ?_) | (with_reducible show Run _ _ (.cond _ _ _) _ _ _; refine Run.condD rfl (fun h => ?_) (fun h => ?_)) | (with_reducible first | refine seqN (K := Run _ _ _ _) ?_ | refine seqE ?_ | refine blockN ?_ | refine blockE ?_))
      all_goals first
        | (exfalso; omega)
        | (with_reducible refine seqN ?_
           exact ⟨(j + 1, _), by dsimp only; omega, by dsimp only; omega, Ent.of (by dsimp only; exact slA) (by dsimp only; rw [hd]; exact chA)⟩)
  · subst h9
    rw [List.take_length]
    repeat' (first | (with_reducible refine RL.done ?_) | (with_reducible refine RL.wanted ?_ ?_; exact rfl) | ((with_reducible show RH _ _ _ ⟨some 5, .alloc _, _, _, _, _⟩ _ _ _ _); refine RH.alloc rfl ?_; rintro _ _ ⟨b5, rfl, rfl⟩) | ((with_reducible show RH _ _ _ _ _ _ _ _); first | refine RH.val (hK := ?_) | refine RH.upd (hK := ?_)) | (with_reducible first | refine Run.seq ?_ | refine Run.region ?_ | refine Run.block ?_ | refine Run.skip ?_ | refine Run.exit ?_ | refine Run.ret ?_) | (with_reducible show Run _ _ (.cond _ _ _) _ _ _; refine Run.condD rfl (fun h => ?_) (fun h => ?_)) | (with_reducible first | refine seqN (K := Run _ _ _ _) ?_ | refine seqE ?_ | refine blockE ?_))
    all_goals first
      | (exfalso; omega)
      | (refine ⟨eA, _, [hsl (tS tInt) (vsv s) (tabsX n m X os), hcells bs [vint n, vsl 2 (fun y : Int × (List Int) => [vint y.1, vsl 1 (fun x : Int => [vint x]) y.2]) os, vint (m : Int), vsl 1 (fun t : List Int => [vsl 1 (fun x : Int => [vint x]) t]) X, vmap bm]], resA, ?_, ?_⟩
         · exact SEnt.ch chA
         · exact ⟨s, rfl, rfl⟩)
end Go.Proofs.Ytemfpennomelaaa
