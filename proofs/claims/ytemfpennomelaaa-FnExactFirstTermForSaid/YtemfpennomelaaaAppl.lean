/- An operation applied to rows place by place: spec.l8Apply, l12Compose, l13Result, impl.composeTables, applyTuples. Proved for this program; conditions: up to 3 rows of elements of 1 to 8, a table of all their values. -/
import Derived.Test.YtemfpennomelaaaRowFn
namespace Go.Proofs.Ytemfpennomelaaa
open Go Go.Proofs
set_option linter.unusedVariables false

/-- the elements of rows at a place -/
def colT (ts : List (List Int)) (j : Nat) : List Int := ts.map fun t => t.getD j 0
theorem colT_length (ts : List (List Int)) (j : Nat) : (colT ts j).length = ts.length := by simp [colT]
def applyT (n : Int) (tb : List Int) (ts : List (List Int)) (m : Nat) : List Int := (List.range m).map fun j => tb.getD (hor n (colT ts j)).toNat 0
theorem applyT_length (n : Int) (tb : List Int) (ts : List (List Int)) (m : Nat) : (applyT n tb ts m).length = m := by simp [applyT]
theorem applyT_succ (n : Int) (tb : List Int) (ts : List (List Int)) (m : Nat) : applyT n tb ts (m + 1) = applyT n tb ts m ++ [tb.getD (hor n (colT ts m)).toNat 0] := by
  simp [applyT, List.range_succ]
/-- what an operation needs of rows of m places at least -/
structure ApOk (n : Int) (tb : List Int) (ts : List (List Int)) (m : Nat) : Prop where
  n1 : 1 ≤ n
  n8 : n ≤ 8
  few : ts.length ≤ 3
  tab : (tb.length : Int) = pw n ts.length
  row : ∀ t ∈ ts, m ≤ t.length ∧ elB n t = true
  big : m ≤ 1048576
theorem elB_at {n : Int} {t : List Int} (h : elB n t = true) {j : Nat} (hj : j < t.length) : 0 ≤ t[j] ∧ t[j] < n := by
  rw [elB, List.all_eq_true] at h
  have := h _ (List.getElem_mem hj)
  simpa using this
theorem ApOk.el {n : Int} {tb : List Int} {ts : List (List Int)} {m : Nat} (h : ApOk n tb ts m) {j : Nat} (hj : j < m) : elB n (colT ts j) = true := by
  rw [elB, List.all_eq_true]
  intro x hx
  obtain ⟨t, ht, rfl⟩ := List.mem_map.1 hx
  obtain ⟨h1, h2⟩ := h.row t ht
  have := elB_at h2 (j := j) (by omega)
  simp only [List.getD_eq_getElem?_getD, List.getElem?_eq_getElem (show j < t.length by omega), Option.getD_some, decide_eq_true_eq]
  exact this
/-- a round of the sum -/
theorem ApOk.step {n : Int} {tb : List Int} {ts : List (List Int)} {m : Nat} (h : ApOk n tb ts m) {j i : Nat} (hj : j < m) (hi : i < ts.length) :
    ∃ hl : j < ts[i].length, 0 ≤ ts[i][j] ∧ ts[i][j] < n ∧ hor n ((colT ts j).take (i + 1)) = hor n ((colT ts j).take i) * n + ts[i][j] ∧ 0 ≤ hor n ((colT ts j).take i) ∧ hor n ((colT ts j).take i) ≤ 512 ∧ 0 ≤ hor n ((colT ts j).take i) * n ∧ hor n ((colT ts j).take i) * n ≤ 4096 := by
  obtain ⟨h1, h2⟩ := h.row _ (List.getElem_mem hi)
  have hl : j < ts[i].length := by omega
  have h3 := elB_at h2 hl
  have h4 := hor_succ n (colT ts j) i (by simp [colT]; omega)
  have h5 : (colT ts j)[i]'(by simp [colT]; omega) = ts[i][j] := by simp [colT, hl]
  obtain ⟨h6, h7⟩ := hor_bound n (by have := h.n1; omega) (colT ts j) (h.el hj) i (by simp [colT]; omega)
  have h8 := pw_512' n h.n1 h.n8 i (by have := h.few; omega)
  have h9 : 0 ≤ hor n ((colT ts j).take i) * n := Int.mul_nonneg h6 (by have := h.n1; omega)
  have h10 : hor n ((colT ts j).take i) * n ≤ 512 * 8 := Int.mul_le_mul (by omega) h.n8 (by have := h.n1; omega) (by decide)
  exact ⟨hl, h3.1, h3.2, by rw [h4, h5], h6, by omega, h9, by omega⟩
/-- the value's place in the table -/
theorem ApOk.idx {n : Int} {tb : List Int} {ts : List (List Int)} {m : Nat} (h : ApOk n tb ts m) {j : Nat} (hj : j < m) : 0 ≤ hor n (colT ts j) ∧ (hor n (colT ts j)).toNat < tb.length := by
  have h1 := hor_bound n (by have := h.n1; omega) (colT ts j) (h.el hj) (colT ts j).length (Nat.le_refl _)
  rw [List.take_length] at h1
  have h2 := h.tab
  rw [colT_length] at h1
  omega
theorem ApOk.mono {n : Int} {tb : List Int} {ts : List (List Int)} {m k : Nat} (h : ApOk n tb ts m) (hk : k ≤ m) : ApOk n tb ts k :=
  ⟨h.n1, h.n8, h.few, h.tab, fun t ht => ⟨Nat.le_trans hk (h.row t ht).1, (h.row t ht).2⟩, Nat.le_trans hk h.big⟩
theorem getD_g (p : List Int) (d : Int) (j : Nat) (h : j < p.length) : p.getD j d = p[j] := by
  rw [List.getD_eq_getElem?_getD, List.getElem?_eq_getElem h]; rfl
theorem applyT_el {n : Int} {tb : List Int} {ts : List (List Int)} {m : Nat} (h : ApOk n tb ts m) (ht : elB n tb = true) : elB n (applyT n tb ts m) = true := by
  rw [elB, List.all_eq_true]
  intro x hx
  obtain ⟨j, hj, rfl⟩ := List.mem_map.1 hx
  have h1 := h.idx (List.mem_range.1 hj)
  rw [getD_g _ _ _ h1.2]
  simpa using elB_at ht h1.2

set_option maxRecDepth 10000 in
set_option maxHeartbeats 1000000 in
theorem l8Apply_c (n : Int) (os : List (Int × List Int)) (op : Nat) (hop : op < os.length) (ho : os.length ≤ 4611686018427387904) (ts : List (List Int)) (m : Nat) (ha : ApOk n os[op].2 ts m) :
    Spec Try.prog 39 [vagg [vint n, vsl 2 (fun y : Int × (List Int) => [vint y.1, vsl 1 (fun x : Int => [vint x]) y.2]) os], vint (op : Int), vsl 1 (fun t : List Int => [vsl 1 (fun x : Int => [vint x]) t]) ts, vint (m : Int)] [] (fun r S' => ∃ s : Sv, r = vlit (vsv s) ∧ S' = [hsl tInt (vsv s) (applyT n os[op].2 ts m)]) := by
  have hbig := ha.big
  have hfew := ha.few
  have hn8 := ha.n8
  have hn1 := ha.n1
  refine Spec.of_run2 (n := 50) Try.func39 rfl Try.results39 Try.ntmps39 rfl ?_
  repeat' (first | (with_reducible refine RL.done ?_) | (with_reducible refine RL.wanted ?_ ?_; exact rfl) | ((with_reducible show RH _ _ _ ⟨some 4, .box _ _, _, _, _, _⟩ _ _ _ _); (refine RH.boxAgg rfl rfl ?_; rintro _ _ ⟨b4, rfl, rfl⟩)) | ((with_reducible show RH _ _ _ ⟨some 13, .buildSlice _ _ _, _, _, _, _⟩ _ _ _ _); refine RH.eff rfl rfl (EOpS.e (EOpS.slit (fun x : Int => [vint x]) _ (fun _ _ => rfl) (by repeat (first | exact Elts.nil | (apply Elts.cons; exact rfl; exact CellsOf.one))) rfl rfl)) ?_; rintro _ _ ⟨b13, rfl, rfl⟩) | ((with_reducible show RH _ _ _ _ _ _ _ _); refine RH.val (hK := ?_)) | (with_reducible first | refine Run.seq ?_ | refine Run.region ?_ | refine Run.block ?_) | (with_reducible refine seqN (K := Run _ _ _ _) ?_))
  refine Run.sent (T := [hsl tInt (vsv (some ⟨b13, 0, none⟩, 0, 0)) [], hcells b4 [vint n, vsl 2 (fun y : Int × (List Int) => [vint y.1, vsl 1 (fun x : Int => [vint x]) y.2]) os]]) (SEnt.packNil tInt rfl) ?_
  refine Run.loop (α := Nat × Sv) (fun x => [(1, vint (op : Int)), (2, vsl 1 (fun t : List Int => [vsl 1 (fun x : Int => [vint x]) t]) ts), (3, vint (m : Int)), (4, vptr b4 0), (9, vlit (vsv x.2)), (10, vint (x.1 : Int))]) (fun x => [hsl tInt (vsv x.2) (applyT n os[op].2 ts x.1), hcells b4 [vint n, vsl 2 (fun y : Int × (List Int) => [vint y.1, vsl 1 (fun x : Int => [vint x]) y.2]) os]]) (fun x => x.1 ≤ m) (fun x => m - x.1) (0, (some ⟨b13, 0, none⟩, 0, 0)) (by simp) (Ent.of slA (.cons .head rfl chA)) ?_
  rintro ⟨p, s⟩ hp
  dsimp only at hp ⊢
  have hl := applyT_length n os[op].2 ts p
  rcases Nat.lt_or_eq_of_le hp with h9 | rfl
  · repeat' (first | (with_reducible refine RL.done ?_) | (with_reducible refine RL.wanted ?_ ?_; exact rfl) | ((with_reducible show RH _ _ _ _ _ _ _ _); refine RH.val (hK := ?_)) | (with_reducible first | refine Run.seq ?_ | refine Run.region ?_ | refine Run.block ?_ | refine Run.skip ?_ | refine Run.exit ?_ | refine Run.ret ?_) | (with_reducible show Run _ _ (.cond _ _ _) _ _ _; refine Run.condD rfl (fun h => ?_) (fun h => ?_)) | (with_reducible first | refine seqN (K := Run _ _ _ _) ?_ | refine seqE ?_ | refine blockE ?_))
    · refine Run.loop (α := Nat) (fun i => [(1, vint (op : Int)), (2, vsl 1 (fun t : List Int => [vsl 1 (fun x : Int => [vint x]) t]) ts), (3, vint (m : Int)), (4, vptr b4 0), (9, vlit (vsv s)), (10, vint (p : Int)), (11, vint (hor n ((colT ts p).take i))), (12, vint (i : Int))]) (fun i => [hsl tInt (vsv s) (applyT n os[op].2 ts p), hcells b4 [vint n, vsl 2 (fun y : Int × (List Int) => [vint y.1, vsl 1 (fun x : Int => [vint x]) y.2]) os]]) (fun i => i ≤ ts.length) (fun i => ts.length - i) 0 (by simp) (Ent.of slA chA) ?_
      intro i hi
      rcases Nat.lt_or_eq_of_le hi with h8 | rfl
      · obtain ⟨hl2, hv1, hv2, hs, hb1, hb2, hb3, hb4⟩ := ha.step h9 h8
        repeat' (first | (with_reducible refine RL.done ?_) | (with_reducible refine RL.wanted ?_ ?_; exact rfl) | ((with_reducible show Run _ _ (.region 9 _ true) _ _ _); refine Run.regionD (fun i => false) rfl ?_; change RD _ _ _ _ _ _ 13 (dm 13 0) _ _) | ((with_reducible show RD _ _ 9 _ _ _ _ _ _ _); first | ((with_reducible show RD _ _ _ _ _ _ _ (dm 13 0) _ _); refine RD.tk 0 (dm 13 6152) (dm 13 1) (hK := ?_)) | ((with_reducible show RD _ _ _ _ _ _ _ (dm 13 1) _ _); refine RD.tk 1 (dm 13 6156) (dm 13 3) (hK := ?_)) | ((with_reducible show RD _ _ _ _ _ _ _ (dm 13 3) _ _); refine RD.tk 2 (dm 13 6152) (dm 13 7) (hK := ?_)) | ((with_reducible show RD _ _ _ _ _ _ _ (dm 13 7) _ _); refine RD.tk 3 (dm 13 6144) (dm 13 15) (hK := ?_)) | ((with_reducible show RD _ _ _ _ _ _ _ (dm 13 15) _ _); refine RD.tk 4 (dm 13 7872) (dm 13 31) (hK := ?_)) | ((with_reducible show RD _ _ _ _ _ _ _ (dm 13 31) _ _); refine RD.tk 5 (dm 13 7872) (dm 13 63) (hK := ?_)) | ((with_reducible show RD _ _ _ _ _ _ _ (dm 13 63) _ _); refine RD.tk 6 (dm 13 7808) (dm 13 127) (hK := ?_)) | ((with_reducible show RD _ _ _ _ _ _ _ (dm 13 127) _ _); refine RD.tk 7 (dm 13 7680) (dm 13 255) (hK := ?_)) | ((with_reducible show RD _ _ _ _ _ _ _ (dm 13 255) _ _); refine RD.tk 8 (dm 13 7680) (dm 13 511) (hK := ?_)) | ((with_reducible show RD _ _ _ _ _ _ _ (dm 13 511) _ _); refine RD.tk 9 (dm 13 7168) (dm 13 1023) (hK := ?_)) | ((with_reducible show RD _ _ _ _ _ _ _ (dm 13 1023) _ _); refine RD.tk 10 (dm 13 6144) (dm 13 2047) (hK := ?_)) | ((with_reducible show RD _ _ _ _ _ _ _ (dm 13 2047) _ _); refine RD.tk 11 (dm 13 4096) (dm 13 4095) (hK := ?_)) | ((with_reducible show RD _ _ _ _ _ _ _ (dm 13 4095) _ _); refine RD.tk 12 (dm 13 0) (dm 13 8191) (hK := ?_)) | ((with_reducible show RD _ _ _ _ _ _ 0 _ _ _); refine RD.done (by kernel_rfl) ?_)) | ((with_reducible show RH _ _ _ ⟨some 47, .buildSlice _ _ _, _, _, _, _⟩ _ _ _ _); refine RH.eff rfl rfl (EOpS.e (EOpS.slit (fun x : Int => [vint x]) _ (fun _ _ => rfl) (by repeat (first | exact Elts.nil | (apply Elts.cons; exact rfl; exact CellsOf.one))) rfl rfl)) ?_; rintro _ _ ⟨b47, rfl, rfl⟩) | ((with_reducible show RH _ _ _ _ _ _ _ _); refine RH.val (hK := ?_)) | (with_reducible first | refine Run.seq ?_ | refine Run.region ?_ | refine Run.block ?_ | refine Run.skip ?_ | refine Run.exit ?_) | (with_reducible show Run _ _ (.cond _ _ _) _ _ _; refine Run.condD rfl (fun h => ?_) (fun h => ?_)) | (with_reducible first | refine seqN (K := Run _ _ _ _) ?_ | refine seqE ?_ | refine blockN ?_ | refine blockE ?_))
        · with_reducible refine seqN ?_
          exact ⟨i + 1, by omega, by omega, Ent.of (by rw [hs]; exact slA) chA⟩
        · exfalso; omega
      · obtain ⟨hv1, hv2⟩ := ha.idx h9
        have hc : (colT ts p).take ts.length = colT ts p := List.take_of_length_le (by simp [colT])
        rw [hc]
        repeat' (first | (with_reducible refine RL.done ?_) | (with_reducible refine RL.wanted ?_ ?_; exact rfl) | ((with_reducible show Run _ _ (.region 9 _ true) _ _ _); refine Run.regionD (fun i => false) rfl ?_; change RD _ _ _ _ _ _ 13 (dm 13 0) _ _) | ((with_reducible show RD _ _ 9 _ _ _ _ _ _ _); first | ((with_reducible show RD _ _ _ _ _ _ _ (dm 13 0) _ _); refine RD.tk 0 (dm 13 6152) (dm 13 1) (hK := ?_)) | ((with_reducible show RD _ _ _ _ _ _ _ (dm 13 1) _ _); refine RD.tk 1 (dm 13 6156) (dm 13 3) (hK := ?_)) | ((with_reducible show RD _ _ _ _ _ _ _ (dm 13 3) _ _); refine RD.tk 2 (dm 13 6152) (dm 13 7) (hK := ?_)) | ((with_reducible show RD _ _ _ _ _ _ _ (dm 13 7) _ _); refine RD.tk 3 (dm 13 6144) (dm 13 15) (hK := ?_)) | ((with_reducible show RD _ _ _ _ _ _ _ (dm 13 15) _ _); refine RD.tk 4 (dm 13 7872) (dm 13 31) (hK := ?_)) | ((with_reducible show RD _ _ _ _ _ _ _ (dm 13 31) _ _); refine RD.tk 5 (dm 13 7872) (dm 13 63) (hK := ?_)) | ((with_reducible show RD _ _ _ _ _ _ _ (dm 13 63) _ _); refine RD.tk 6 (dm 13 7808) (dm 13 127) (hK := ?_)) | ((with_reducible show RD _ _ _ _ _ _ _ (dm 13 127) _ _); refine RD.tk 7 (dm 13 7680) (dm 13 255) (hK := ?_)) | ((with_reducible show RD _ _ _ _ _ _ _ (dm 13 255) _ _); refine RD.tk 8 (dm 13 7680) (dm 13 511) (hK := ?_)) | ((with_reducible show RD _ _ _ _ _ _ _ (dm 13 511) _ _); refine RD.tk 9 (dm 13 7168) (dm 13 1023) (hK := ?_)) | ((with_reducible show RD _ _ _ _ _ _ _ (dm 13 1023) _ _); refine RD.tk 10 (dm 13 6144) (dm 13 2047) (hK := ?_)) | ((with_reducible show RD _ _ _ _ _ _ _ (dm 13 2047) _ _); refine RD.tk 11 (dm 13 4096) (dm 13 4095) (hK := ?_)) | ((with_reducible show RD _ _ _ _ _ _ _ (dm 13 4095) _ _); refine RD.tk 12 (dm 13 0) (dm 13 8191) (hK := ?_)) | ((with_reducible show RD _ _ _ _ _ _ 0 _ _ _); refine RD.done (by kernel_rfl) ?_)) | ((with_reducible show RH _ _ _ ⟨some 47, .buildSlice _ _ _, _, _, _, _⟩ _ _ _ _); refine RH.eff rfl rfl (EOpS.e (EOpS.slit (fun x : Int => [vint x]) _ (fun _ _ => rfl) (by repeat (first | exact Elts.nil | (apply Elts.cons; exact rfl; exact CellsOf.one))) rfl rfl)) ?_; rintro _ _ ⟨b47, rfl, rfl⟩) | ((with_reducible show RH _ _ _ ⟨_, .call ⟨.builtin .append, _, _⟩, _, _, _, _⟩ _ _ _ _); (refine RH.appI rfl rfl rfl (by repeat (first | exact Pick.nil | (apply Pick.cons; (with_reducible repeat (first | exact Rem.head | apply Rem.tail))))) (by first | omega | (simp; omega)) (by first | omega | (simp; omega)) ?_); rintro _ _ ⟨s, rfl, rfl⟩) | ((with_reducible show RH _ _ _ _ _ _ _ _); refine RH.val (hK := ?_)) | (with_reducible first | refine Run.seq ?_ | refine Run.region ?_ | refine Run.block ?_ | refine Run.skip ?_ | refine Run.exit ?_) | (with_reducible show Run _ _ (.cond _ _ _) _ _ _; refine Run.condD rfl (fun h => ?_) (fun h => ?_)) | (with_reducible first | refine seqN (K := Run _ _ _ _) ?_ | refine seqE ?_ | refine blockN ?_ | refine blockE ?_))
        · exfalso; omega
        · with_reducible refine seqN ?_
          exact ⟨(p + 1, _), by simp; omega, by simp; omega, Ent.of slA (by dsimp only; exact .cons .head (by rw [applyT_succ, getD_g _ _ _ hv2]) chA)⟩
    · exfalso; omega
  · repeat' (first | (with_reducible refine RL.done ?_) | (with_reducible refine RL.wanted ?_ ?_; exact rfl) | ((with_reducible show RH _ _ _ _ _ _ _ _); refine RH.val (hK := ?_)) | (with_reducible first | refine Run.seq ?_ | refine Run.region ?_ | refine Run.block ?_ | refine Run.skip ?_ | refine Run.exit ?_ | refine Run.ret ?_) | (with_reducible show Run _ _ (.cond _ _ _) _ _ _; refine Run.condD rfl (fun h => ?_) (fun h => ?_)) | (with_reducible first | refine seqN (K := Run _ _ _ _) ?_ | refine seqE ?_ | refine blockE ?_))
    · exfalso; omega
    · refine ⟨eA, _, [hsl tInt (vsv s) (applyT n os[op].2 ts p)], resA, ?_, ?_⟩
      · exact SEnt.ch (.cons .head rfl .nil)
      · exact ⟨s, rfl, rfl⟩



theorem applyT_set (n : Int) (tb : List Int) (ts : List (List Int)) (m p : Nat) (h : p < m) (hv : (hor n (colT ts p)).toNat < tb.length) :
    ((applyT n tb ts p) ++ List.replicate (m - p) (0 : Int)).set p (tb[(hor n (colT ts p)).toNat]) = applyT n tb ts (p + 1) ++ List.replicate (m - (p + 1)) 0 := by
  have e : m - p = (m - (p + 1)) + 1 := by omega
  rw [List.set_append_right _ _ (by simp [applyT_length]), applyT_length, Nat.sub_self, e, List.replicate_succ, List.set_cons_zero, applyT_succ, getD_g _ _ _ hv, List.append_assoc]
  rfl

end Go.Proofs.Ytemfpennomelaaa
