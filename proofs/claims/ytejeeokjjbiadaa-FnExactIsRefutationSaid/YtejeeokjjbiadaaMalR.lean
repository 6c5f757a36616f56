/- Rows that show that no term function obeys a condition: spec.IsRefutation, impl.isClosedRows, IsRefutation: the same answer. Proved for this program; conditions: lengths below 2^62. -/
import Derived.Test.YtejeeokjjbiadaaMalO
namespace Go.Proofs.Ytejeeokjjbiadaa
open Go Go.Proofs
set_option linter.unusedVariables false
def rwB (S N : Nat) (row : List Int) : Bool := decide (row.length = S) && elB (N : Int) row
def memB (rows : List Row) (t : Row) : Bool := decide (t ∈ rows)
def cntR (f : Int × List Int) (rows : List Row) : Nat := (pw (rows.length : Int) f.1.toNat).toNat
def clAt (n : Int) (size : Nat) (rows : List Row) (f : Int × List Int) (i : Nat) : Bool := memB rows (applyT n f.2 (chosen rows (lowd (i : Int) (rows.length : Int) f.1.toNat)) size)
def clOp (n : Int) (size : Nat) (rows : List Row) (f : Int × List Int) : Bool := (List.range (cntR f rows)).all (clAt n size rows f)
def clR (n : Int) (os : List (Int × List Int)) (size : Nat) (rows : List Row) : Bool := os.all (clOp n size rows)
def obB (N : Nat) (rs : List (List Int × List Int)) (r : Row) : Bool := !rs.all (obRule N r (pats rs))
def refB (N : Nat) (os : List (Int × List Int)) (F : List Row) (rs : List (List Int × List Int)) (rows : List Row) : Bool := F.all (memB rows) && (rows.all (obB N rs) && clR (N : Int) os (rowS N rs) rows)
def refOk (n : Int) (os : List (Int × List Int)) (a : Int) (rs : List (List Int × List Int)) (rows : List Row) : Bool := mayB n os a rs && (decide (rows.length ≤ 150) && rows.all (rwB (rowS n.toNat rs) n.toNat))
def refV (n : Int) (os : List (Int × List Int)) (a : Int) (rs : List (List Int × List Int)) (rows : List Row) : Bool := refOk n os a rs rows && refB n.toNat os (fstN n a rs) rs rows
abbrev RefRes (n : Int) (os : List (Int × List Int)) (a : Int) (rs : List (List Int × List Int)) (rows : List Row) (r : VP) (S' : List HP) : Prop := r = vtup [vbool (refV n os a rs rows), vbool (refOk n os a rs rows)] ∧ S' = []
theorem rw_inv {S N : Nat} {rows : List Row} (h : rows.all (rwB S N) = true) : DInv (N : Int) S rows := ⟨fun t ht => by
  rw [List.all_eq_true] at h
  have := h t ht
  simpa [rwB] using this⟩
theorem DInv.ap3 {n : Int} {size : Nat} {ts : List Row} (h : DInv n size ts) {os : List (Int × List Int)} (ha : algB n os = true) (hsz : size ≤ 1048576) {f : Int × List Int} (hf : f ∈ os) {ns : List Int} (hl : ns.length = f.1.toNat) (hx : ∀ x ∈ ns, 0 ≤ x ∧ x.toNat < ts.length) : ApOk n f.2 (chosen ts ns) size := by
  obtain ⟨h1, h8, _, hops⟩ := algB_at ha
  have ho := hops _ hf
  simp only [opB, Bool.and_eq_true, decide_eq_true_eq] at ho
  have hcl : (chosen ts ns).length = f.1.toNat := by simp [chosen, hl]
  refine ⟨h1, h8, by rw [hcl]; omega, by rw [hcl]; exact ho.2.1, fun t ht => ?_, hsz⟩
  obtain ⟨y, hy, rfl⟩ := List.mem_map.1 ht
  rw [List.getD_eq_getElem?_getD, List.getElem?_eq_getElem (hx y hy).2]
  obtain ⟨h3, h4⟩ := h.row _ (List.getElem_mem (hx y hy).2)
  exact ⟨Nat.le_of_eq h3.symm, h4⟩
theorem low_in {K k i : Nat} (hK : 1 ≤ K) : ∀ x ∈ lowd (i : Int) (K : Int) k, 0 ≤ x ∧ x.toNat < K := fun x hx => by
  have := lowd_range' (i : Int) (K : Int) (by omega) (by omega) _ x hx
  omega
theorem place_yes {rows : List Row} {t : Row} (h : ¬ placeAt rows t < 0) : memB rows t = true := decide_eq_true (mem_of_place h)
theorem place_no {rows : List Row} {t : Row} (h : placeAt rows t < 0) : memB rows t = false := decide_eq_false fun h2 => by have := placeAt_mem h2; omega
theorem el_byt {n : Int} (hn : n ≤ 8) {t : List Int} (h : elB n t = true) : ∀ x ∈ t, 0 ≤ x ∧ x < 65536 := fun x hx => by have := elB_mem h x hx; omega
theorem chosen_pu {xs : List (List Int)} {ns : List Int} {A : List (List Int)} {q : Nat} (hq : q < ns.length) (hA : A.length = ns.length) (hx : (ns[q]).toNat < xs.length) :
    ((chosen xs ns).take q ++ A.drop q).set q (xs[(ns[q]).toNat]) = (chosen xs ns).take (q + 1) ++ A.drop (q + 1) := by
  have hcl : (chosen xs ns).length = ns.length := by simp [chosen]
  have hl : ((chosen xs ns).take q).length = q := by simp [hcl]; omega
  have e : (chosen xs ns)[q]'(by omega) = xs[(ns[q]).toNat] := by simp [chosen, hx]
  rw [List.set_append_right _ _ (by omega), hl, Nat.sub_self, List.drop_eq_getElem_cons (by omega), List.set_cons_zero, List.take_add_one, List.getElem?_eq_getElem (by omega : q < (chosen xs ns).length), e, List.append_assoc]
  rfl
theorem keys_snoc {rows : List Row} {m : Nat} (h : m < rows.length) : (rows.take (m + 1)).map keyS = (rows.take m).map keyS ++ [keyS rows[m]] := by
  rw [List.take_add_one, List.getElem?_eq_getElem h, List.map_append]; rfl
set_option maxRecDepth 10000 in
set_option maxHeartbeats 8000000 in
theorem isClosedRows_c (n : Int) (os : List (Int × List Int)) (F : List Row) (size : Nat) (rows : List Row) (ha : algB n os = true) (hsz : size ≤ 1048576) (hF : DInv n size F) (hF1 : 1 ≤ F.length) (hF3 : F.length ≤ 3) (hD : DInv n size rows) (h150 : rows.length ≤ 150) :
    Spec Try.prog 126 [vagg [vint n, vsl 2 (fun y : Int × (List Int) => [vint y.1, vsl 1 (fun x : Int => [vint x]) y.2]) os], vsl 1 (fun t : List Int => [vsl 1 (fun x : Int => [vint x]) t]) F, vsl 1 (fun t : List Int => [vsl 1 (fun x : Int => [vint x]) t]) rows] [] (fun r S' => r = vbool (F.all (memB rows) && clR n os size rows) ∧ S' = []) := by
  obtain ⟨h1, h8, h4, hops⟩ := algB_at ha
  have hF0 : (F[0]'hF1).length = size := (hF.row _ (List.getElem_mem _)).1
  subst hF0
  have hby : ∀ u ∈ rows, ∀ x ∈ u, 0 ≤ x ∧ x < 65536 := fun u hu => el_byt h8 (hD.row u hu).2
  refine Spec.of_run2 (n := 94) Try.func126 rfl Try.results126 Try.ntmps126 rfl ?_
  repeat' (first | (with_reducible refine RL.done ?_) | (with_reducible refine RL.wanted ?_ ?_; exact rfl) | ((with_reducible show RH _ _ _ ⟨some 3, .box _ _, _, _, _, _⟩ _ _ _ _); (refine RH.boxAgg rfl rfl ?_; rintro _ _ ⟨b3, rfl, rfl⟩)) | ((with_reducible show RH _ _ _ ⟨some 18, .makeMap _ _, _, _, _, _⟩ _ _ _ _); (refine RH.makeSet rfl ?_); rintro _ _ ⟨b18, rfl, rfl⟩) | ((with_reducible show RH _ _ _ _ _ _ _ _); refine RH.val (hK := ?_)) | (with_reducible first | refine Run.seq ?_ | refine Run.region ?_ | refine Run.block ?_) | (with_reducible refine seqN (K := Run _ _ _ _) ?_))
  refine Run.loop (α := Nat) (fun m => [(1, vsl 1 (fun t : List Int => [vsl 1 (fun x : Int => [vint x]) t]) F), (2, vsl 1 (fun t : List Int => [vsl 1 (fun x : Int => [vint x]) t]) rows), (3, vptr b3 0), (7, vmap b18), (19, vsl 1 (fun t : List Int => [vsl 1 (fun x : Int => [vint x]) t]) rows), (20, vint (rows.length : Int)), (21, vint (m : Int))])
    (fun m => [hset b18 ((rows.take m).map keyS), hcells b3 [vint n, vsl 2 (fun y : Int × (List Int) => [vint y.1, vsl 1 (fun x : Int => [vint x]) y.2]) os]]) (fun m => m ≤ rows.length) (fun m => rows.length - m) 0 (Nat.zero_le _) (Ent.of slA (.cons .head rfl chA)) ?_
  intro m hm
  rcases Nat.lt_or_eq_of_le hm with h9 | h9
  · have hml := (hD.row _ (List.getElem_mem h9)).1
    have hd := keys_snoc h9
    repeat' (first | (with_reducible first | refine RL.done ?_ | refine RL.app0 ?_) | (with_reducible refine RL.wanted ?_ ?_; exact rfl) | ((with_reducible show RH _ _ _ ⟨_, .call ⟨.value (.func 147), _, _⟩, _, _, _, _⟩ _ _ _ _); refine RH.cP Try.call147 ?_; refine ⟨_, keyOf_c rows[m] (by omega), ?_⟩; rintro _ _ ⟨rfl, rfl⟩) | ((with_reducible show RH _ _ _ _ _ _ _ _); first | refine RH.val (hK := ?_) | refine RH.upd (hK := ?_)) | (with_reducible first | refine Run.seq ?_ | refine Run.region ?_ | refine Run.block ?_ | refine Run.skip ?_ | refine Run.exit ?_) | (with_reducible show Run _ _ (.cond _ _ _) _ _ _; refine Run.condD rfl (fun h => ?_) (fun h => ?_)) | (with_reducible first | refine seqN (K := Run _ _ _ _) ?_ | refine seqE ?_ | refine blockN ?_ | refine blockE ?_))
    all_goals first
      | (exfalso; omega)
      | (with_reducible refine seqN ?_
         exact ⟨m + 1, by omega, by omega, Ent.of slA (by rw [hd]; exact chA)⟩)
  · subst h9
    rw [List.take_length]
    repeat' (first | (with_reducible refine RL.done ?_) | (with_reducible refine RL.wanted ?_ ?_; exact rfl) | ((with_reducible show RH _ _ _ _ _ _ _ _); refine RH.val (hK := ?_)) | (with_reducible first | refine Run.seq ?_ | refine Run.region ?_ | refine Run.block ?_ | refine Run.skip ?_ | refine Run.exit ?_) | (with_reducible show Run _ _ (.cond _ _ _) _ _ _; refine Run.condD rfl (fun h => ?_) (fun h => ?_)) | (with_reducible first | refine seqN (K := Run _ _ _ _) ?_ | refine seqE ?_ | refine blockE ?_))
    all_goals first
      | (exfalso; omega)
      | skip
    refine Run.loop (α := Nat) (fun m => [(1, vsl 1 (fun t : List Int => [vsl 1 (fun x : Int => [vint x]) t]) F), (2, vsl 1 (fun t : List Int => [vsl 1 (fun x : Int => [vint x]) t]) rows), (3, vptr b3 0), (7, vmap b18), (29, vsl 1 (fun t : List Int => [vsl 1 (fun x : Int => [vint x]) t]) F), (30, vint (F.length : Int)), (31, vint (m : Int))])
      (fun m => [hset b18 (rows.map keyS), hcells b3 [vint n, vsl 2 (fun y : Int × (List Int) => [vint y.1, vsl 1 (fun x : Int => [vint x]) y.2]) os]]) (fun m => m ≤ F.length ∧ (F.take m).all (memB rows) = true) (fun m => F.length - m) 0 ⟨Nat.zero_le _, rfl⟩ (Ent.of slA .refl) ?_
    rintro m ⟨hm, hall⟩
    rcases Nat.lt_or_eq_of_le hm with h9 | h9
    · obtain ⟨hml, hme⟩ := hF.row _ (List.getElem_mem h9)
      have hkm := keyS_mem (el_byt h8 hme) hby
      repeat' (first | (with_reducible first | refine RL.done ?_ | refine RL.app0 ?_) | (with_reducible refine RL.wanted ?_ ?_; exact rfl) | ((with_reducible show RH _ _ _ ⟨_, .call ⟨.value (.func 147), _, _⟩, _, _, _, _⟩ _ _ _ _); refine RH.cP Try.call147 ?_; refine ⟨_, keyOf_c F[m] (by omega), ?_⟩; rintro _ _ ⟨rfl, rfl⟩) | ((with_reducible show RH _ _ _ _ _ _ _ _); refine RH.val (hK := ?_)) | (with_reducible first | refine Run.seq ?_ | refine Run.region ?_ | refine Run.block ?_ | refine Run.skip ?_ | refine Run.exit ?_ | refine Run.ret ?_) | (with_reducible show Run _ _ (.cond _ _ _) _ _ _; first | refine Run.condD rfl (fun h => ?_) (fun h => ?_) | refine Run.condND rfl (fun h => ?_) (fun h => ?_)) | (with_reducible first | refine seqN (K := Run _ _ _ _) ?_ | refine seqE ?_ | refine seqR ?_ | refine blockN ?_ | refine blockR ?_ | refine blockE ?_))
      all_goals first
        | (exfalso; omega)
        | (have hin : F[m] ∈ rows := hkm.1 (by assumption)
           with_reducible refine seqN ?_
           exact ⟨m + 1, ⟨by omega, all_step hall h9 (decide_eq_true hin)⟩, by omega, Ent.of slA chA⟩)
        | (have hin : F[m] ∉ rows := fun h => absurd (hkm.2 h) (by assumption)
           refine ⟨eA, _, [], resA, .ch .nil, ?_⟩
           exact ⟨by rw [all_no F m h9 (decide_eq_false hin)]; rfl, rfl⟩)
        | (have hin : F[m] ∈ rows := hkm.1 (Decidable.not_not.1 (by assumption))
           with_reducible refine seqN ?_
           exact ⟨m + 1, ⟨by omega, all_step hall h9 (decide_eq_true hin)⟩, by omega, Ent.of slA chA⟩)
    · have hFall := all_end hall (Nat.le_of_eq h9.symm)
      subst h9
      have hr1 : 1 ≤ rows.length := by
        rw [List.all_eq_true] at hFall
        have := hFall F[0] (List.getElem_mem _)
        exact List.length_pos_of_mem (of_decide_eq_true this)
      rw [hFall, Bool.true_and]
      repeat' (first | (with_reducible refine RL.done ?_) | (with_reducible refine RL.wanted ?_ ?_; exact rfl) | ((with_reducible show RH _ _ _ _ _ _ _ _); refine RH.val (hK := ?_)) | (with_reducible first | refine Run.seq ?_ | refine Run.region ?_ | refine Run.block ?_ | refine Run.skip ?_ | refine Run.exit ?_) | (with_reducible show Run _ _ (.cond _ _ _) _ _ _; refine Run.condD rfl (fun h => ?_) (fun h => ?_)) | (with_reducible first | refine seqN (K := Run _ _ _ _) ?_ | refine seqE ?_ | refine blockE ?_))
      all_goals first
        | (exfalso; omega)
        | skip
      refine Run.loop (α := Nat) (fun j => [(1, vsl 1 (fun t : List Int => [vsl 1 (fun x : Int => [vint x]) t]) F), (2, vsl 1 (fun t : List Int => [vsl 1 (fun x : Int => [vint x]) t]) rows), (3, vptr b3 0), (7, vmap b18), (42, vsl 2 (fun y : Int × (List Int) => [vint y.1, vsl 1 (fun x : Int => [vint x]) y.2]) os), (43, vint (os.length : Int)), (44, vint (j : Int))])
        (fun j => [hset b18 (rows.map keyS), hcells b3 [vint n, vsl 2 (fun y : Int × (List Int) => [vint y.1, vsl 1 (fun x : Int => [vint x]) y.2]) os]]) (fun j => j ≤ os.length ∧ (os.take j).all (clOp n (F[0]'hF1).length rows) = true) (fun j => os.length - j) 0 ⟨Nat.zero_le _, rfl⟩ (Ent.of slA .refl) ?_
      rintro j ⟨hj, hallj⟩
      rcases Nat.lt_or_eq_of_le hj with hop | h9
      · have hf := List.getElem_mem hop
        have hf3 : 0 ≤ os[j].1 ∧ os[j].1 ≤ 3 := by
          have h := hops _ hf
          simp only [opB, Bool.and_eq_true, decide_eq_true_eq] at h
          exact h.1
        have hkf : ((os[j].1.toNat : Nat) : Int) = os[j].1 := by omega
        have hpow := power_c (rows.length : Int) os[j].1.toNat (by omega) (by omega) (by omega)
        obtain ⟨hp0, hpb⟩ := pw_bound (rows.length : Int) (by omega) (by omega) os[j].1.toNat (by omega)
        have hN : ((cntR os[j] rows : Nat) : Int) = pw (rows.length : Int) os[j].1.toNat := by rw [cntR]; omega
        rw [hkf, ← hN] at hpow
        repeat' (first | (with_reducible refine RL.done ?_) | (with_reducible refine RL.wanted ?_ ?_; exact rfl) | ((with_reducible show RH _ _ _ ⟨some 50, .makeSlice _ _ _, _, _, _, _⟩ _ _ _ _); refine RH.makeZ (α := List Int) rfl (fun t : List Int => [vsl 1 (fun x : Int => [vint x]) t]) [] row_nil rfl rfl (by omega) (by omega) ?_; rintro _ _ ⟨b50, rfl, rfl⟩) | ((with_reducible show RH _ _ _ ⟨some 13, .alloc _, _, _, _, _⟩ _ _ _ _); refine RH.alloc rfl ?_; rintro _ _ ⟨b13, rfl, rfl⟩) | ((with_reducible show RH _ _ _ _ _ _ _ _); first | refine RH.val (hK := ?_) | refine RH.upd (hK := ?_)) | (with_reducible first | refine Run.seq ?_ | refine Run.region ?_ | refine Run.block ?_ | refine Run.skip ?_ | refine Run.exit ?_ | refine Run.ret ?_) | (with_reducible show Run _ _ (.cond _ _ _) _ _ _; refine Run.condD rfl (fun h => ?_) (fun h => ?_)) | (with_reducible first | refine seqN (K := Run _ _ _ _) ?_ | refine seqE ?_ | refine blockE ?_))
        all_goals first
          | (exfalso; omega)
          | skip
        refine Run.loop (α := Nat × List (List Int)) (fun z => [(1, vsl 1 (fun t : List Int => [vsl 1 (fun x : Int => [vint x]) t]) F), (2, vsl 1 (fun t : List Int => [vsl 1 (fun x : Int => [vint x]) t]) rows), (3, vptr b3 0), (7, vmap b18), (42, vsl 2 (fun y : Int × (List Int) => [vint y.1, vsl 1 (fun x : Int => [vint x]) y.2]) os), (43, vint (os.length : Int)), (44, vint (j : Int)), (13, vptr b13 0), (14, vsb b50 os[j].1.toNat os[j].1.toNat), (15, vint (z.1 : Int))])
          (fun z => [harr b50 1 (fun t : List Int => [vsl 1 (fun x : Int => [vint x]) t]) z.2 (os[j].1.toNat * 1), hcells b13 [vint os[j].1, vsl 1 (fun x : Int => [vint x]) os[j].2], hset b18 (rows.map keyS), hcells b3 [vint n, vsl 2 (fun y : Int × (List Int) => [vint y.1, vsl 1 (fun x : Int => [vint x]) y.2]) os]])
          (fun z => z.1 ≤ cntR os[j] rows ∧ z.2.length = os[j].1.toNat ∧ (List.range z.1).all (clAt n (F[0]'hF1).length rows os[j]) = true) (fun z => cntR os[j] rows - z.1) (0, List.replicate os[j].1.toNat []) ⟨Nat.zero_le _, by simp, rfl⟩ (Ent.of slA (.cons .head rfl chA)) ?_
        rintro ⟨i, A⟩ ⟨hi, hA, halli⟩
        dsimp only at hi hA halli ⊢
        rcases Nat.lt_or_eq_of_le hi with hi9 | hi9
        · have hnum := low_in (k := os[j].1.toNat) (i := i) hr1
          have hll := lowd_length (i : Int) (rows.length : Int) os[j].1.toNat
          have hargs := argsAt_c (i : Int) (rows.length : Int) os[j].1.toNat (by omega) (by omega) (by omega) (by omega)
          rw [hkf] at hargs
          have hap : ApOk n os[j].2 (chosen rows (lowd (i : Int) (rows.length : Int) os[j].1.toNat)) (F[0]'hF1).length := hD.ap3 ha hsz hf (by rw [hll]) hnum
          have htel := applyT_el hap (show elB n os[j].2 = true by
            have h := hops _ hf
            simp only [opB, Bool.and_eq_true, decide_eq_true_eq] at h
            exact h.2.2)
          have hcomp := composeTables_c n os[j].1 os[j].2 (chosen rows (lowd (i : Int) (rows.length : Int) os[j].1.toNat)) (F[0]'hF1).length hap
          have hkm := keyS_mem (el_byt h8 htel) hby
          repeat' (first | (with_reducible first | refine RL.done ?_ | refine RL.app0 ?_) | (with_reducible refine RL.wanted ?_ ?_; exact rfl) | ((with_reducible show RH _ _ _ ⟨_, .call ⟨.value (.func 144), _, _⟩, _, _, _, _⟩ _ _ _ _); refine RH.cP Try.call144 ?_; refine ⟨_, hpow, ?_⟩; rintro _ _ ⟨rfl, rfl⟩) | ((with_reducible show RH _ _ _ ⟨_, .call ⟨.value (.func 145), _, _⟩, _, _, _, _⟩ _ _ _ _); refine RH.cP Try.call145 ?_; refine ⟨_, hargs, ?_⟩; rintro _ _ ⟨s65, rfl, rfl⟩; refine RL.app1 ?_; refine RL.frzI ?_) | ((with_reducible show RH _ _ _ _ _ _ _ _); refine RH.val (hK := ?_)) | (with_reducible first | refine Run.seq ?_ | refine Run.region ?_ | refine Run.block ?_ | refine Run.skip ?_ | refine Run.exit ?_) | (with_reducible show Run _ _ (.cond _ _ _) _ _ _; refine Run.condD rfl (fun h => ?_) (fun h => ?_)) | (with_reducible first | refine seqN (K := Run _ _ _ _) ?_ | refine seqE ?_ | refine blockN ?_ | refine blockE ?_))
          all_goals first
            | (exfalso; omega)
            | skip
          refine Run.loop (α := Nat) (fun q => [(1, vsl 1 (fun t : List Int => [vsl 1 (fun x : Int => [vint x]) t]) F), (2, vsl 1 (fun t : List Int => [vsl 1 (fun x : Int => [vint x]) t]) rows), (3, vptr b3 0), (7, vmap b18), (42, vsl 2 (fun y : Int × (List Int) => [vint y.1, vsl 1 (fun x : Int => [vint x]) y.2]) os), (43, vint (os.length : Int)), (44, vint (j : Int)), (13, vptr b13 0), (14, vsb b50 os[j].1.toNat os[j].1.toNat), (15, vint (i : Int)), (65, vsl 1 (fun x : Int => [vint x]) ((lowd (i : Int) (rows.length : Int) os[j].1.toNat))), (66, vint ((lowd (i : Int) (rows.length : Int) os[j].1.toNat).length : Int)), (67, vint (q : Int))])
            (fun q => [harr b50 1 (fun t : List Int => [vsl 1 (fun x : Int => [vint x]) t]) ((chosen rows (lowd (i : Int) (rows.length : Int) os[j].1.toNat)).take q ++ A.drop q) (os[j].1.toNat * 1), hcells b13 [vint os[j].1, vsl 1 (fun x : Int => [vint x]) os[j].2], hset b18 (rows.map keyS), hcells b3 [vint n, vsl 2 (fun y : Int × (List Int) => [vint y.1, vsl 1 (fun x : Int => [vint x]) y.2]) os]])
            (fun q => q ≤ (lowd (i : Int) (rows.length : Int) os[j].1.toNat).length) (fun q => (lowd (i : Int) (rows.length : Int) os[j].1.toNat).length - q) 0 (Nat.zero_le _) (Ent.of slA (.cons .head (by simp) chA)) ?_
          intro q hq
          have hcl2 : (chosen rows (lowd (i : Int) (rows.length : Int) os[j].1.toNat)).length = os[j].1.toNat := by simp [chosen, hll]
          have hAl : ((chosen rows (lowd (i : Int) (rows.length : Int) os[j].1.toNat)).take q ++ A.drop q).length = os[j].1.toNat := by simp [hcl2]; omega
          rcases Nat.lt_or_eq_of_le hq with hq9 | hq9
          · have hxq := hnum _ (List.getElem_mem hq9)
            have hput := chosen_pu (xs := rows) (A := A) hq9 (by omega) hxq.2
            repeat' (first | (with_reducible refine RL.done ?_) | (with_reducible refine RL.wanted ?_ ?_; exact rfl) | ((with_reducible show RH _ _ _ _ _ _ _ _); first | refine RH.val (hK := ?_) | refine RH.upd (hK := ?_)) | (with_reducible first | refine Run.seq ?_ | refine Run.region ?_ | refine Run.block ?_ | refine Run.skip ?_ | refine Run.exit ?_) | (with_reducible show Run _ _ (.cond _ _ _) _ _ _; refine Run.condD rfl (fun h => ?_) (fun h => ?_)) | (with_reducible first | refine seqN (K := Run _ _ _ _) ?_ | refine seqE ?_ | refine blockN ?_ | refine blockE ?_))
            all_goals first
              | (exfalso; omega)
              | (with_reducible refine seqN ?_
                 exact ⟨q + 1, by omega, by omega, Ent.of slA (.cons .head (congrArg (fun ys => harr b50 1 (fun t : List Int => [vsl 1 (fun x : Int => [vint x]) t]) ys (os[j].1.toNat * 1)) hput) chA)⟩)
          · subst hq9
            have hAe : (chosen rows (lowd (i : Int) (rows.length : Int) os[j].1.toNat)).take (lowd (i : Int) (rows.length : Int) os[j].1.toNat).length ++ A.drop (lowd (i : Int) (rows.length : Int) os[j].1.toNat).length = chosen rows (lowd (i : Int) (rows.length : Int) os[j].1.toNat) := by
              rw [List.drop_of_length_le (by omega), List.append_nil, List.take_of_length_le (by omega)]
            rw [hAe] at hAl ⊢
            have hcl3 : clOp n (F[0]'hF1).length rows os[j] = false ∨ memB rows (applyT n os[j].2 (chosen rows (lowd (i : Int) (rows.length : Int) os[j].1.toNat)) (F[0]'hF1).length) = true := by
              cases e : memB rows (applyT n os[j].2 (chosen rows (lowd (i : Int) (rows.length : Int) os[j].1.toNat)) (F[0]'hF1).length) with
              | true => exact .inr rfl
              | false => exact .inl (rAll_false (clAt n (F[0]'hF1).length rows os[j]) i _ hi9 e)
            have hstep : memB rows (applyT n os[j].2 (chosen rows (lowd (i : Int) (rows.length : Int) os[j].1.toNat)) (F[0]'hF1).length) = true → (List.range (i + 1)).all (clAt n (F[0]'hF1).length rows os[j]) = true := fun h => by rw [rAll_succ, halli]; exact h
            have hnot : ¬ keyS (applyT n os[j].2 (chosen rows (lowd (i : Int) (rows.length : Int) os[j].1.toNat)) (F[0]'hF1).length) ∈ rows.map keyS → clOp n (F[0]'hF1).length rows os[j] = false := fun h => hcl3.resolve_right fun h2 => h (hkm.2 (of_decide_eq_true h2))
            repeat' (first | (with_reducible first | refine RL.done ?_ | refine RD.app0 ?_) | (with_reducible refine RL.wanted ?_ ?_; exact rfl) | ((with_reducible show Run _ _ (.region 25 _ true) _ _ _); refine Run.regionD (fun i => false) rfl ?_; change RD _ _ _ _ _ _ 13 (dm 13 0) _ _) | ((with_reducible show RD _ _ 25 _ _ _ _ _ _ _); first | ((with_reducible show RD _ _ _ _ _ _ _ (dm 13 0) _ _); refine RD.tk 0 (dm 13 6144) (dm 13 1) (hK := ?_)) | ((with_reducible show RD _ _ _ _ _ _ _ (dm 13 1) _ _); refine RD.tk 1 (dm 13 7684) (dm 13 3) (hK := ?_)) | ((with_reducible show RD _ _ _ _ _ _ _ (dm 13 3) _ _); refine RD.tk 2 (dm 13 7680) (dm 13 7) (hK := ?_)) | ((with_reducible show RD _ _ _ _ _ _ _ (dm 13 7) _ _); refine RD.tk 3 (dm 13 7680) (dm 13 15) (hK := ?_)) | ((with_reducible show RD _ _ _ _ _ _ _ (dm 13 15) _ _); refine RD.tk 4 (dm 13 7680) (dm 13 31) (hK := ?_)) | ((with_reducible show RD _ _ _ _ _ _ _ (dm 13 31) _ _); refine RD.tk 5 (dm 13 8128) (dm 13 63) (hK := ?_)) | ((with_reducible show RD _ _ _ _ _ _ _ (dm 13 63) _ _); refine RD.tk 6 (dm 13 8064) (dm 13 127) (hK := ?_)) | ((with_reducible show RD _ _ _ _ _ _ _ (dm 13 127) _ _); refine RD.tk 7 (dm 13 7936) (dm 13 255) (hK := ?_)) | ((with_reducible show RD _ _ _ _ _ _ _ (dm 13 255) _ _); refine RD.tk 8 (dm 13 7680) (dm 13 511) (hK := ?_)) | ((with_reducible show RD _ _ _ _ _ _ _ (dm 13 511) _ _); refine RD.a1 9 ?_) | ((with_reducible show RD _ _ _ _ _ _ _ (dm 13 1023) _ _); refine RD.a1 10 ?_) | ((with_reducible show RD _ _ _ _ _ _ _ (dm 13 2047) _ _); refine RD.tk 11 (dm 13 4096) (dm 13 4095) (hK := ?_)) | ((with_reducible show RD _ _ _ _ _ _ _ (dm 13 4095) _ _); refine RD.tk 12 (dm 13 0) (dm 13 8191) (hK := ?_)) | ((with_reducible show RD _ _ _ _ _ _ 0 _ _ _); refine RD.done (by kernel_rfl) ?_)) | ((with_reducible show RO _ _ 25 _ _ _ _ _ _ _ _); first | ((with_reducible show RO _ _ _ _ _ _ _ (dm 13 511) 9 _ _); (refine RO.cL (dm 13 1023) Try.call178 ?_; apply Exists.intro; apply And.intro; (focus ((repeat (first | exact LVs.nil | (apply LVs.arr; (with_reducible repeat (exact Has.head)); (omega); exact rfl) | apply LVs.agg | apply LVs.refl)); done)); refine ⟨_, hcomp, (by intro r H h; first | (obtain ⟨rfl, rfl⟩ := h; exact ⟨inferInstance, inferInstance⟩) | (obtain ⟨_, rfl, rfl⟩ := h; exact ⟨inferInstance, inferInstance⟩) | (obtain ⟨_, _, rfl, rfl⟩ := h; exact ⟨inferInstance, inferInstance⟩) | (obtain ⟨_, _, rfl, rfl, _⟩ := h; exact ⟨inferInstance, inferInstance⟩)), ?_⟩; rintro _ _ ⟨s89, rfl, rfl⟩; refine RD.app1 ?_; refine RD.frzI ?_)) | ((with_reducible show RO _ _ _ _ _ _ _ (dm 13 1023) 10 _ _); (refine RO.cP (dm 13 2047) Try.call147 ?_; refine ⟨_, keyOf_c _ (by rw [applyT_length]; omega), ?_⟩; rintro _ _ ⟨rfl, rfl⟩))) | ((with_reducible show RH _ _ _ _ _ _ _ _); first | refine RH.val (hK := ?_) | refine RH.upd (hK := ?_)) | (with_reducible first | refine Run.seq ?_ | refine Run.region ?_ | refine Run.block ?_ | refine Run.skip ?_ | refine Run.exit ?_ | refine Run.ret ?_) | (with_reducible show Run _ _ (.cond _ _ _) _ _ _; first | refine Run.condD rfl (fun h => ?_) (fun h => ?_) | refine Run.condND rfl (fun h => ?_) (fun h => ?_)) | (with_reducible first | refine seqN (K := Run _ _ _ _) ?_ | refine seqE ?_ | refine seqR ?_ | refine blockN ?_ | refine blockR ?_ | refine blockE ?_))
            all_goals first
              | (exfalso; omega)
              | skip
            all_goals first
              | (have hin := hkm.1 (by assumption)
                 with_reducible refine seqN ?_
                 exact ⟨(i + 1, chosen rows (lowd (i : Int) (rows.length : Int) os[j].1.toNat)), ⟨by dsimp only; omega, hcl2, hstep (decide_eq_true hin)⟩, by dsimp only; omega, Ent.of (by dsimp only; exact slA) (by dsimp only; exact chA)⟩)
              | (have hno2 := hnot (by assumption)
                 refine ⟨eA, _, [], resA, .ch .nil, ?_⟩
                 exact ⟨by rw [clR, all_no os j hop hno2]; rfl, rfl⟩)
              | (have hin := hkm.1 (Decidable.not_not.1 (by assumption))
                 with_reducible refine seqN ?_
                 exact ⟨(i + 1, chosen rows (lowd (i : Int) (rows.length : Int) os[j].1.toNat)), ⟨by dsimp only; omega, hcl2, hstep (decide_eq_true hin)⟩, by dsimp only; omega, Ent.of (by dsimp only; exact slA) (by dsimp only; exact chA)⟩)
        · subst hi9
          repeat' (first | (with_reducible first | refine RL.done ?_ | refine RL.app0 ?_) | (with_reducible refine RL.wanted ?_ ?_; exact rfl) | ((with_reducible show RH _ _ _ ⟨_, .call ⟨.value (.func 144), _, _⟩, _, _, _, _⟩ _ _ _ _); refine RH.cP Try.call144 ?_; refine ⟨_, hpow, ?_⟩; rintro _ _ ⟨rfl, rfl⟩) | ((with_reducible show RH _ _ _ _ _ _ _ _); refine RH.val (hK := ?_)) | (with_reducible first | refine Run.seq ?_ | refine Run.region ?_ | refine Run.block ?_ | refine Run.skip ?_ | refine Run.exit ?_) | (with_reducible show Run _ _ (.cond _ _ _) _ _ _; refine Run.condD rfl (fun h => ?_) (fun h => ?_)) | (with_reducible first | refine seqN (K := Run _ _ _ _) ?_ | refine seqE ?_ | refine blockN ?_ | refine blockE ?_))
          all_goals first
            | (exfalso; omega)
            | (with_reducible refine seqN ?_
               exact ⟨j + 1, ⟨by omega, all_step hallj hop halli⟩, by omega, Ent.of slA chA⟩)
      · subst h9
        repeat' (first | (with_reducible refine RL.done ?_) | (with_reducible refine RL.wanted ?_ ?_; exact rfl) | ((with_reducible show RH _ _ _ ⟨some 13, .alloc _, _, _, _, _⟩ _ _ _ _); refine RH.alloc rfl ?_; rintro _ _ ⟨b13, rfl, rfl⟩) | ((with_reducible show RH _ _ _ _ _ _ _ _); first | refine RH.val (hK := ?_) | refine RH.upd (hK := ?_)) | (with_reducible first | refine Run.seq ?_ | refine Run.region ?_ | refine Run.block ?_ | refine Run.skip ?_ | refine Run.exit ?_ | refine Run.ret ?_) | (with_reducible show Run _ _ (.cond _ _ _) _ _ _; refine Run.condD rfl (fun h => ?_) (fun h => ?_)) | (with_reducible first | refine seqN (K := Run _ _ _ _) ?_ | refine seqE ?_ | refine blockE ?_))
        all_goals first
          | (exfalso; omega)
          | (refine ⟨eA, _, [], resA, .ch .nil, ?_⟩
             exact ⟨by rw [clR, all_end hallj (Nat.le_refl _)]; rfl, rfl⟩)
theorem refOk_at {n : Int} {os : List (Int × List Int)} {a : Int} {rs : List (List Int × List Int)} {rows : List Row} (h : refOk n os a rs rows = false) : refV n os a rs rows = false := by rw [refV, h]; rfl
set_option maxRecDepth 10000 in
set_option maxHeartbeats 4000000 in
theorem implRef_c (n : Int) (os : List (Int × List Int)) (a : Int) (rs : List (List Int × List Int)) (rows : List Row) (hol : os.length ≤ 4611686018427387904) (ho : OpsLen os) (hl : rs.length ≤ 4611686018427387904) (hr : ∀ y ∈ rs, y.1.length ≤ 4611686018427387904 ∧ y.2.length ≤ 4611686018427387904) (hrl : rows.length ≤ 4611686018427387904) (hrr : ∀ t ∈ rows, t.length ≤ 4611686018427387904) :
    Spec Try.prog 56 [vagg [vint n, vsl 2 (fun y : Int × (List Int) => [vint y.1, vsl 1 (fun x : Int => [vint x]) y.2]) os], vagg [vint a, vsl 2 (fun y : (List Int) × (List Int) => [vsl 1 (fun x : Int => [vint x]) y.1, vsl 1 (fun x : Int => [vint x]) y.2]) rs], vsl 1 (fun t : List Int => [vsl 1 (fun x : Int => [vint x]) t]) rows] [] (RefRes n os a rs rows) := by
  have hM := canSearch_c n os a rs hol ho hl hr
  cases hm : mayB n os a rs with
  | false =>
    have e : refOk n os a rs rows = false := by rw [refOk, hm]; rfl
    rw [hm] at hM
    refine Spec.of_run2 (n := 68) Try.func56 rfl Try.results56 Try.ntmps56 rfl ?_
    repeat' (first | (with_reducible first | refine RL.done ?_ | refine RL.app0 ?_) | (with_reducible refine RL.wanted ?_ ?_; exact rfl) | ((with_reducible show RH _ _ _ ⟨some 3, .box _ _, _, _, _, _⟩ _ _ _ _); (refine RH.boxAgg rfl rfl ?_; rintro _ _ ⟨b3, rfl, rfl⟩)) | ((with_reducible show RH _ _ _ ⟨some 4, .box _ _, _, _, _, _⟩ _ _ _ _); (refine RH.boxAgg rfl rfl ?_; rintro _ _ ⟨b4, rfl, rfl⟩)) | ((with_reducible show RH _ _ _ ⟨_, .call ⟨.value (.func 123), _, _⟩, _, _, _, _⟩ _ _ _ _); refine RH.cP Try.call123 ?_; refine ⟨_, hM, ?_⟩; rintro _ _ ⟨rfl, rfl⟩) | ((with_reducible show RH _ _ _ _ _ _ _ _); refine RH.val (hK := ?_)) | (with_reducible show RL _ _ _ (_ :: _) _ _ _; refine RL.guardNoS rfl rfl rfl rfl rfl rfl ?_) | (with_reducible first | refine Run.seq ?_ | refine Run.region ?_ | refine Run.ret ?_) | (with_reducible show Run _ _ (.cond _ _ _) _ _ _; refine Run.condT rfl ?_) | (with_reducible first | refine seqN (K := Run _ _ _ _) ?_ | refine seqR ?_))
    all_goals first
      | (exfalso; simp_all; done)
      | (refine ⟨eA, _, [], resA, .ch .nil, ?_⟩
         exact ⟨by rw [refOk_at e, e]; rfl, rfl⟩)
  | true =>
    rw [hm] at hM
    by_cases hlen : rows.length ≤ 150
    · obtain ⟨N, k0, size, rfl, rfl, hk, hfe⟩ := mal_ok hm
      have hsz := rowS_le hk.n4 hk.cond
      have hN : N = 1 ∨ N = 2 ∨ N = 3 ∨ N = 4 := by have := hk.n1; have := hk.n4; omega
      have hFl := fstR_length N k0 size (pats rs) k0
      have hFi := fstR_inv (k := k0) (size := size) hk.n1 rs
      have h2 := hk.k2
      have h3 := hk.k3
      have hn1 := hk.n1
      have hn4 := hk.n4
      have hpf := pats_few hk.cond
      have hm1 : (0 : Int) ≤ ((pats rs).length : Int) * (N : Int) ∧ ((pats rs).length : Int) * (N : Int) ≤ 48 := by
        have h5 : (pats rs).length * N ≤ 12 * 4 := Nat.mul_le_mul hpf hn4
        rw [← Int.natCast_mul]; omega
      have hm2 : ((rowS N rs : Nat) : Int) = ((pats rs).length : Int) * (N : Int) * (N : Int) := by rw [rowS, Int.natCast_mul, Int.natCast_mul]
      have eok : refOk (N : Int) os (k0 : Int) rs rows = rows.all (rwB (rowS N rs) N) := by
        rw [refOk, hm, decide_eq_true hlen, Int.toNat_natCast]; rfl
      have ev : refV (N : Int) os (k0 : Int) rs rows = (rows.all (rwB (rowS N rs) N) && refB N os (fstR N k0 size (pats rs) k0) rs rows) := by
        rw [refV, eok, hfe, Int.toNat_natCast]
      refine Spec.of_run2 (n := 68) Try.func56 rfl Try.results56 Try.ntmps56 rfl ?_
      repeat' (first | (with_reducible first | refine RL.done ?_ | refine RL.app0 ?_) | (with_reducible refine RL.wanted ?_ ?_; exact rfl) | ((with_reducible show RH _ _ _ ⟨some 3, .box _ _, _, _, _, _⟩ _ _ _ _); (refine RH.boxAgg rfl rfl ?_; rintro _ _ ⟨b3, rfl, rfl⟩)) | ((with_reducible show RH _ _ _ ⟨some 4, .box _ _, _, _, _, _⟩ _ _ _ _); (refine RH.boxAgg rfl rfl ?_; rintro _ _ ⟨b4, rfl, rfl⟩)) | ((with_reducible show RH _ _ _ ⟨_, .call ⟨.value (.func 123), _, _⟩, _, _, _, _⟩ _ _ _ _); refine RH.cP Try.call123 ?_; refine ⟨_, hM, ?_⟩; rintro _ _ ⟨rfl, rfl⟩) | ((with_reducible show RH _ _ _ ⟨_, .call ⟨.value (.func 124), _, _⟩, _, _, _, _⟩ _ _ _ _); refine RH.cP Try.call124 ?_; refine ⟨_, patternsOf_c (k0 : Int) rs hk.cond, ?_⟩; rintro _ _ ⟨s22, rfl, rfl⟩; refine RL.app1 ?_; refine RL.frzS ?_) | ((with_reducible show RH _ _ _ _ _ _ _ _); refine RH.val (hK := ?_)) | (with_reducible show RL _ _ _ (_ :: _) _ _ _; refine RL.guardYes rfl rfl rfl rfl ?_) | (with_reducible first | refine Run.seq ?_ | refine Run.region ?_ | refine Run.block ?_ | refine Run.skip ?_ | refine Run.ret ?_) | (with_reducible show Run _ _ (.cond _ _ _) _ _ _; refine Run.condD rfl (fun h => ?_) (fun h => ?_)) | (with_reducible first | refine seqN (K := Run _ _ _ _) ?_ | refine seqR ?_))
      all_goals first
        | (exfalso; omega)
        | (exfalso; simp_all; done)
        | skip
      refine Run.loop (α := Nat × Bool) (fun z => [(2, vsl 1 (fun t : List Int => [vsl 1 (fun x : Int => [vint x]) t]) rows), (3, vptr b3 0), (4, vptr b4 0), (8, vsl 1 (fun t : List Int => [vsl 1 (fun x : Int => [vint x]) t]) (pats rs)), (9, vbool z.2), (23, vsl 1 (fun t : List Int => [vsl 1 (fun x : Int => [vint x]) t]) rows), (24, vint (rows.length : Int)), (25, vint (z.1 : Int))])
        (fun _ => [hcells b4 [vint (k0 : Int), vsl 2 (fun y : (List Int) × (List Int) => [vsl 1 (fun x : Int => [vint x]) y.1, vsl 1 (fun x : Int => [vint x]) y.2]) rs], hcells b3 [vint (N : Int), vsl 2 (fun y : Int × (List Int) => [vint y.1, vsl 1 (fun x : Int => [vint x]) y.2]) os]]) (fun z => z.1 ≤ rows.length ∧ (rows.take z.1).all (rwB (rowS N rs) N) = true ∧ z.2 = !(rows.take z.1).all (obB N rs)) (fun z => rows.length - z.1) (0, false) ⟨Nat.zero_le _, rfl, rfl⟩ (Ent.of slA chA) ?_
      rintro ⟨m, o⟩ ⟨hmm, hall, hob0⟩
      dsimp only at hmm hall hob0 ⊢
      rcases Nat.lt_or_eq_of_le hmm with h9 | h9
      · have hS := inSize_c (N : Int) rows[m] (hrr _ (List.getElem_mem h9))
        cases hrw : rwB (rowS N rs) N rows[m] with
        | false =>
          have hno := all_no rows m h9 hrw
          have e1 : refOk (N : Int) os (k0 : Int) rs rows = false := by rw [eok, hno]
          have e2 := refOk_at e1
          by_cases hlm : rows[m].length = rowS N rs
          · have hel : elB (N : Int) rows[m] = false := by
              cases e : elB (N : Int) rows[m] with
              | false => rfl
              | true => rw [rwB, decide_eq_true hlm, e] at hrw; cases hrw
            rw [hel] at hS
            repeat' (first | (with_reducible first | refine RL.done ?_ | refine RL.app0 ?_) | (with_reducible refine RL.wanted ?_ ?_; exact rfl) | ((with_reducible show RH _ _ _ ⟨_, .call ⟨.value (.func 90), _, _⟩, _, _, _, _⟩ _ _ _ _); refine RH.cP Try.call90 ?_; refine ⟨_, hS, ?_⟩; rintro _ _ ⟨rfl, rfl⟩) | ((with_reducible show RH _ _ _ _ _ _ _ _); refine RH.val (hK := ?_)) | (with_reducible show RL _ _ _ (_ :: _) _ _ _; first | refine RL.guardYes rfl rfl rfl rfl ?_ | refine RL.guardNoS rfl rfl rfl rfl rfl rfl ?_ | refine RL.splitD rfl rfl rfl (fun h => ?_) (fun h => ?_)) | (with_reducible first | refine Run.seq ?_ | refine Run.region ?_ | refine Run.block ?_ | refine Run.skip ?_ | refine Run.exit ?_ | refine Run.ret ?_) | (with_reducible show Run _ _ (.cond _ _ _) _ _ _; first | refine Run.condT rfl ?_ | refine Run.condD rfl (fun h => ?_) (fun h => ?_)) | (with_reducible first | refine seqN (K := Run _ _ _ _) ?_ | refine seqE ?_ | refine seqR ?_ | refine blockR ?_ | refine blockE ?_))
            all_goals first
              | (exfalso; omega)
              | (exfalso; simp_all; done)
              | (refine ⟨eA, _, [], resA, .ch .nil, ?_⟩
                 exact ⟨by rw [e2, e1]; rfl, rfl⟩)
          · repeat' (first | (with_reducible refine RL.done ?_) | (with_reducible refine RL.wanted ?_ ?_; exact rfl) | ((with_reducible show RH _ _ _ _ _ _ _ _); refine RH.val (hK := ?_)) | (with_reducible show RL _ _ _ (_ :: _) _ _ _; first | refine RL.guardYes rfl rfl rfl rfl ?_ | refine RL.guardNoS rfl rfl rfl rfl rfl rfl ?_ | refine RL.splitD rfl rfl rfl (fun h => ?_) (fun h => ?_)) | (with_reducible first | refine Run.seq ?_ | refine Run.region ?_ | refine Run.block ?_ | refine Run.skip ?_ | refine Run.exit ?_ | refine Run.ret ?_) | (with_reducible show Run _ _ (.cond _ _ _) _ _ _; first | refine Run.condT rfl ?_ | refine Run.condD rfl (fun h => ?_) (fun h => ?_)) | (with_reducible first | refine seqN (K := Run _ _ _ _) ?_ | refine seqE ?_ | refine seqR ?_ | refine blockR ?_ | refine blockE ?_))
            all_goals first
              | (exfalso; omega)
              | (refine ⟨eA, _, [], resA, .ch .nil, ?_⟩
                 exact ⟨by rw [e2, e1]; rfl, rfl⟩)
        | true =>
          have hrw2 := hrw
          simp only [rwB, Bool.and_eq_true, decide_eq_true_eq] at hrw2
          obtain ⟨hlm, hel⟩ := hrw2
          have hob := rowObeys_c N hN rows[m] (k0 : Int) rs hk.cond (pats rs) rfl hlm
          rw [hel] at hS
          have hta := all_step hall h9 hrw
          cases o with
          | true =>
            have hno2 : (rows.take (m + 1)).all (obB N rs) = false := by
              rw [List.take_add_one, List.getElem?_eq_getElem h9, List.all_append]
              cases e : (rows.take m).all (obB N rs) with
              | false => rfl
              | true => rw [e] at hob0; cases hob0
            repeat' (first | (with_reducible first | refine RL.done ?_ | refine RL.app0 ?_) | (with_reducible refine RL.wanted ?_ ?_; exact rfl) | ((with_reducible show RH _ _ _ ⟨_, .call ⟨.value (.func 90), _, _⟩, _, _, _, _⟩ _ _ _ _); refine RH.cP Try.call90 ?_; refine ⟨_, hS, ?_⟩; rintro _ _ ⟨rfl, rfl⟩) | ((with_reducible show RH _ _ _ _ _ _ _ _); refine RH.val (hK := ?_)) | (with_reducible show RL _ _ _ (_ :: _) _ _ _; first | refine RL.guardYes rfl rfl rfl rfl ?_ | refine RL.guardNoS rfl rfl rfl rfl rfl rfl ?_ | refine RL.splitD rfl rfl rfl (fun h => ?_) (fun h => ?_)) | (with_reducible first | refine Run.seq ?_ | refine Run.region ?_ | refine Run.block ?_ | refine Run.skip ?_ | refine Run.exit ?_ | refine Run.ret ?_) | (with_reducible show Run _ _ (.cond _ _ _) _ _ _; first | refine Run.condT rfl ?_ | refine Run.condF rfl ?_ | refine Run.condD rfl (fun h => ?_) (fun h => ?_)) | (with_reducible first | refine seqN (K := Run _ _ _ _) ?_ | refine seqE ?_ | refine seqR ?_ | refine blockN ?_ | refine blockR ?_ | refine blockE ?_))
            all_goals first
              | (exfalso; omega)
              | (exfalso; simp_all; done)
              | (with_reducible refine seqN ?_
                 exact ⟨(m + 1, true), ⟨by dsimp only; omega, hta, by dsimp only; rw [hno2]; rfl⟩, by dsimp only; omega, Ent.of slA chA⟩)
          | false =>
            have hyes : (rows.take m).all (obB N rs) = true := by
              cases e : (rows.take m).all (obB N rs) with
              | true => rfl
              | false => rw [e] at hob0; cases hob0
            have hno2 : (rs.all (obRule N rows[m] (pats rs))) = !(rows.take (m + 1)).all (obB N rs) := by
              rw [List.take_add_one, List.getElem?_eq_getElem h9, List.all_append, hyes]
              simp [obB]
            repeat' (first | (with_reducible first | refine RL.done ?_ | refine RL.app0 ?_) | (with_reducible refine RL.wanted ?_ ?_; exact rfl) | ((with_reducible show RH _ _ _ ⟨_, .call ⟨.value (.func 90), _, _⟩, _, _, _, _⟩ _ _ _ _); refine RH.cP Try.call90 ?_; refine ⟨_, hS, ?_⟩; rintro _ _ ⟨rfl, rfl⟩) | ((with_reducible show RH _ _ _ ⟨_, .call ⟨.value (.func 125), _, _⟩, _, _, _, _⟩ _ _ _ _); refine RH.cP Try.call125 ?_; refine ⟨_, hob, ?_⟩; rintro _ _ ⟨rfl, rfl⟩) | ((with_reducible show RH _ _ _ _ _ _ _ _); refine RH.val (hK := ?_)) | (with_reducible show RL _ _ _ (_ :: _) _ _ _; first | refine RL.guardYes rfl rfl rfl rfl ?_ | refine RL.guardNoS rfl rfl rfl rfl rfl rfl ?_ | refine RL.splitD rfl rfl rfl (fun h => ?_) (fun h => ?_)) | (with_reducible first | refine Run.seq ?_ | refine Run.region ?_ | refine Run.block ?_ | refine Run.skip ?_ | refine Run.exit ?_ | refine Run.ret ?_) | (with_reducible show Run _ _ (.cond _ _ _) _ _ _; first | refine Run.condT rfl ?_ | refine Run.condF rfl ?_ | refine Run.condD rfl (fun h => ?_) (fun h => ?_)) | (with_reducible first | refine seqN (K := Run _ _ _ _) ?_ | refine seqE ?_ | refine seqR ?_ | refine blockN ?_ | refine blockR ?_ | refine blockE ?_))
            all_goals first
              | (exfalso; omega)
              | (exfalso; simp_all; done)
              | (with_reducible refine seqN ?_
                 exact ⟨(m + 1, rs.all (obRule N rows[m] (pats rs))), ⟨by dsimp only; omega, hta, hno2⟩, by dsimp only; omega, Ent.of slA chA⟩)
      · subst h9
        rw [List.take_length] at hall hob0
        have e1 : refOk (N : Int) os (k0 : Int) rs rows = true := by rw [eok, hall]
        have hD := rw_inv hall
        cases o with
        | true =>
          have hno2 : rows.all (obB N rs) = false := by
            cases e : rows.all (obB N rs) with
            | false => rfl
            | true => rw [e] at hob0; cases hob0
          have e2 : refV (N : Int) os (k0 : Int) rs rows = false := by rw [ev, hall, refB, hno2]; simp
          repeat' (first | (with_reducible refine RL.done ?_) | (with_reducible refine RL.wanted ?_ ?_; exact rfl) | ((with_reducible show Run _ _ (.region 12 _ true) _ _ _); refine Run.regionD (fun i => false) rfl ?_; change RD _ _ _ _ _ _ 13 (dm 13 0) _ _) | ((with_reducible show RD _ _ 12 _ _ _ _ _ _ _); first | ((with_reducible show RD _ _ _ _ _ _ _ (dm 13 0) _ _); refine RD.tk 0 (dm 13 8190) (dm 13 1) (hK := ?_)) | ((with_reducible show RD _ _ _ _ _ _ _ (dm 13 1) _ _); refine RD.tk 1 (dm 13 8188) (dm 13 3) (hK := ?_)) | ((with_reducible show RD _ _ _ _ _ _ _ (dm 13 3) _ _); refine RD.tk 2 (dm 13 8184) (dm 13 7) (hK := ?_)) | ((with_reducible show RD _ _ _ _ _ _ _ (dm 13 7) _ _); refine RD.sk 3 (dm 13 7680) (dm 13 15) (hK := ?_)) | ((with_reducible show RD _ _ _ _ _ _ _ (dm 13 15) _ _); refine RD.sk 4 (dm 13 7840) (dm 13 31) (hK := ?_)) | ((with_reducible show RD _ _ _ _ _ _ _ (dm 13 31) _ _); refine RD.sk 5 (dm 13 7808) (dm 13 63) (hK := ?_)) | ((with_reducible show RD _ _ _ _ _ _ _ (dm 13 63) _ _); refine RD.sk 6 (dm 13 7808) (dm 13 127) (hK := ?_)) | ((with_reducible show RD _ _ _ _ _ _ _ (dm 13 127) _ _); refine RD.sk 8 (dm 13 7680) (dm 13 383) (hK := ?_)) | ((with_reducible show RD _ _ _ _ _ _ _ (dm 13 383) _ _); refine RD.sk 7 (dm 13 7680) (dm 13 511) (hK := ?_)) | ((with_reducible show RD _ _ _ _ _ _ _ (dm 13 511) _ _); refine RD.sk 9 (dm 13 7168) (dm 13 1023) (hK := ?_)) | ((with_reducible show RD _ _ _ _ _ _ _ (dm 13 1023) _ _); refine RD.tk 10 (dm 13 6144) (dm 13 2047) (hK := ?_)) | ((with_reducible show RD _ _ _ _ _ _ _ (dm 13 2047) _ _); refine RD.tk 11 (dm 13 4096) (dm 13 4095) (hK := ?_)) | ((with_reducible show RD _ _ _ _ _ _ _ (dm 13 4095) _ _); refine RD.tk 12 (dm 13 0) (dm 13 8191) (hK := ?_)) | ((with_reducible show RD _ _ _ _ _ _ 0 _ _ _); refine RD.done (by kernel_rfl) ?_)) | ((with_reducible show RH _ _ _ _ _ _ _ _); refine RH.val (hK := ?_)) | (with_reducible show RL _ _ _ (_ :: _) _ _ _; first | refine RL.guardYes rfl rfl rfl rfl ?_ | refine RL.guardNoS rfl rfl rfl rfl rfl rfl ?_ | refine RL.splitD rfl rfl rfl (fun h => ?_) (fun h => ?_)) | (with_reducible first | refine Run.seq ?_ | refine Run.region ?_ | refine Run.block ?_ | refine Run.skip ?_ | refine Run.exit ?_ | refine Run.ret ?_) | (with_reducible show Run _ _ (.cond _ _ _) _ _ _; first | refine Run.condT rfl ?_ | refine Run.condD rfl (fun h => ?_) (fun h => ?_)) | (with_reducible first | refine seqN (K := Run _ _ _ _) ?_ | refine seqE ?_ | refine seqR ?_ | refine blockR ?_ | refine blockE ?_))
          all_goals first
            | (exfalso; omega)
            | (exfalso; exact Bool.noConfusion (show false = true by assumption))
            | (refine ⟨eA, _, [], resA, .ch .nil, ?_⟩
               exact ⟨by rw [e2, e1]; rfl, rfl⟩)
        | false =>
          have hyes : rows.all (obB N rs) = true := by
            cases e : rows.all (obB N rs) with
            | true => rfl
            | false => rw [e] at hob0; cases hob0
          have e2 : refV (N : Int) os (k0 : Int) rs rows = ((fstR N k0 size (pats rs) k0).all (memB rows) && clR (N : Int) os (rowS N rs) rows) := by rw [ev, hall, refB, hyes]; simp
          repeat' (first | (with_reducible first | refine RL.done ?_ | refine RD.app0 ?_) | (with_reducible refine RL.wanted ?_ ?_; exact rfl) | ((with_reducible show Run _ _ (.region 12 _ true) _ _ _); refine Run.regionD (fun i => false) rfl ?_; change RD _ _ _ _ _ _ 13 (dm 13 0) _ _) | ((with_reducible show RD _ _ 12 _ _ _ _ _ _ _); first | ((with_reducible show RD _ _ _ _ _ _ _ (dm 13 0) _ _); refine RD.tk 0 (dm 13 8190) (dm 13 1) (hK := ?_)) | ((with_reducible show RD _ _ _ _ _ _ _ (dm 13 1) _ _); refine RD.tk 1 (dm 13 8188) (dm 13 3) (hK := ?_)) | ((with_reducible show RD _ _ _ _ _ _ _ (dm 13 3) _ _); refine RD.tk 2 (dm 13 8184) (dm 13 7) (hK := ?_)) | ((with_reducible show RD _ _ _ _ _ _ _ (dm 13 7) _ _); refine RD.tk 3 (dm 13 7680) (dm 13 15) (hK := ?_)) | ((with_reducible show RD _ _ _ _ _ _ _ (dm 13 15) _ _); refine RD.tk 4 (dm 13 7840) (dm 13 31) (hK := ?_)) | ((with_reducible show RD _ _ _ _ _ _ _ (dm 13 31) _ _); refine RD.tk 5 (dm 13 7808) (dm 13 63) (hK := ?_)) | ((with_reducible show RD _ _ _ _ _ _ _ (dm 13 63) _ _); refine RD.tk 6 (dm 13 7808) (dm 13 127) (hK := ?_)) | ((with_reducible show RD _ _ _ _ _ _ _ (dm 13 127) _ _); refine RD.tk 8 (dm 13 7680) (dm 13 383) (hK := ?_)) | ((with_reducible show RD _ _ _ _ _ _ _ (dm 13 383) _ _); first | refine RD.sk 7 (dm 13 7680) (dm 13 511) (hK := ?_) | refine RD.spNB (i := 7) (fun h => ?_) (fun h => ?_) | refine RD.a1 7 ?_) | ((with_reducible show RD _ _ _ _ _ _ _ (dm 13 511) _ _); first | refine RD.sk 9 (dm 13 7168) (dm 13 1023) (hK := ?_) | refine RD.a1 9 ?_) | ((with_reducible show RD _ _ _ _ _ _ _ (dm 13 1023) _ _); refine RD.tk 10 (dm 13 6144) (dm 13 2047) (hK := ?_)) | ((with_reducible show RD _ _ _ _ _ _ _ (dm 13 2047) _ _); refine RD.tk 11 (dm 13 4096) (dm 13 4095) (hK := ?_)) | ((with_reducible show RD _ _ _ _ _ _ _ (dm 13 4095) _ _); refine RD.tk 12 (dm 13 0) (dm 13 8191) (hK := ?_)) | ((with_reducible show RD _ _ _ _ _ _ 0 _ _ _); refine RD.done (by kernel_rfl) ?_)) | ((with_reducible show RO _ _ 12 _ _ _ _ _ _ _ _); first | ((with_reducible show RO _ _ _ _ _ _ _ (dm 13 383) 7 _ _); (refine RO.cP (dm 13 511) Try.call127 ?_; refine ⟨_, projectionRows_c N k0 size hk.n1 hk.n4 rs hk.cond hk.pw hk.few, ?_⟩; rintro _ _ ⟨s64, rfl, rfl⟩; refine RD.app1 ?_; refine RD.frzS ?_)) | ((with_reducible show RO _ _ _ _ _ _ _ (dm 13 511) 9 _ _); (refine RO.cP (dm 13 1023) Try.call126 ?_; refine ⟨_, isClosedRows_c (N : Int) os (fstR N k0 size (pats rs) k0) (rowS N rs) rows hk.alg (by omega) hFi (by omega) (by omega) hD (by omega), ?_⟩; rintro _ _ ⟨rfl, rfl⟩))) | ((with_reducible show RH _ _ _ _ _ _ _ _); refine RH.val (hK := ?_)) | (with_reducible show RL _ _ _ (_ :: _) _ _ _; first | refine RL.guardYes rfl rfl rfl rfl ?_ | refine RL.guardNoS rfl rfl rfl rfl rfl rfl ?_ | refine RL.splitD rfl rfl rfl (fun h => ?_) (fun h => ?_)) | (with_reducible first | refine Run.seq ?_ | refine Run.region ?_ | refine Run.block ?_ | refine Run.skip ?_ | refine Run.exit ?_ | refine Run.ret ?_) | (with_reducible show Run _ _ (.cond _ _ _) _ _ _; first | refine Run.condT rfl ?_ | refine Run.condD rfl (fun h => ?_) (fun h => ?_)) | (with_reducible first | refine seqN (K := Run _ _ _ _) ?_ | refine seqE ?_ | refine seqR ?_ | refine blockR ?_ | refine blockE ?_))
          all_goals first
            | (exfalso; omega)
            | (exfalso; exact Bool.noConfusion (show false = true by assumption))
            | (refine ⟨eA, _, [], resA, .ch .nil, ?_⟩
               exact ⟨by rw [e2, e1]; rfl, rfl⟩)
    · have e : refOk n os a rs rows = false := by rw [refOk, hm, decide_eq_false hlen]; rfl
      refine Spec.of_run2 (n := 68) Try.func56 rfl Try.results56 Try.ntmps56 rfl ?_
      repeat' (first | (with_reducible first | refine RL.done ?_ | refine RL.app0 ?_) | (with_reducible refine RL.wanted ?_ ?_; exact rfl) | ((with_reducible show RH _ _ _ ⟨some 3, .box _ _, _, _, _, _⟩ _ _ _ _); (refine RH.boxAgg rfl rfl ?_; rintro _ _ ⟨b3, rfl, rfl⟩)) | ((with_reducible show RH _ _ _ ⟨some 4, .box _ _, _, _, _, _⟩ _ _ _ _); (refine RH.boxAgg rfl rfl ?_; rintro _ _ ⟨b4, rfl, rfl⟩)) | ((with_reducible show RH _ _ _ ⟨_, .call ⟨.value (.func 123), _, _⟩, _, _, _, _⟩ _ _ _ _); refine RH.cP Try.call123 ?_; refine ⟨_, hM, ?_⟩; rintro _ _ ⟨rfl, rfl⟩) | ((with_reducible show RH _ _ _ _ _ _ _ _); refine RH.val (hK := ?_)) | (with_reducible show RL _ _ _ (_ :: _) _ _ _; refine RL.guardYes rfl rfl rfl rfl ?_) | (with_reducible first | refine Run.seq ?_ | refine Run.region ?_ | refine Run.skip ?_ | refine Run.ret ?_) | (with_reducible show Run _ _ (.cond _ _ _) _ _ _; refine Run.condD rfl (fun h => ?_) (fun h => ?_)) | (with_reducible first | refine seqN (K := Run _ _ _ _) ?_ | refine seqR ?_))
      all_goals first
        | (exfalso; omega)
        | (exfalso; simp_all; done)
        | (refine ⟨eA, _, [], resA, .ch .nil, ?_⟩
           exact ⟨by rw [refOk_at e, e]; rfl, rfl⟩)
set_option maxRecDepth 10000 in
theorem isRowM_c (N : Nat) (hn1 : 1 ≤ N) (hn4 : N ≤ 4) (row : List Int) (a : Int) (rs : List (List Int × List Int)) (hc : condB a rs = true) (hl : row.length ≤ 4611686018427387904) :
    Spec Try.prog 116 [vint (N : Int), vsl 1 (fun x : Int => [vint x]) row, vsl 1 (fun t : List Int => [vsl 1 (fun x : Int => [vint x]) t]) (pats rs)] [] (fun r S' => r = vbool (rwB (rowS N rs) N row) ∧ S' = []) := by
  have hpf := pats_few hc
  have hm1 : (0 : Int) ≤ ((pats rs).length : Int) * (N : Int) ∧ ((pats rs).length : Int) * (N : Int) ≤ 48 := by
    have h5 : (pats rs).length * N ≤ 12 * 4 := Nat.mul_le_mul hpf hn4
    rw [← Int.natCast_mul]; omega
  have hm2 : ((rowS N rs : Nat) : Int) = ((pats rs).length : Int) * (N : Int) * (N : Int) := by rw [rowS, Int.natCast_mul, Int.natCast_mul]
  have hsz := rowS_le hn4 hc
  refine Spec.of_run2 (n := 21) Try.func116 rfl Try.results116 Try.ntmps116 rfl ?_
  repeat' (first | (with_reducible first | refine RL.done ?_ | refine RL.app0 ?_) | (with_reducible refine RL.wanted ?_ ?_; exact rfl) | ((with_reducible show RH _ _ _ ⟨_, .call ⟨.value (.func 85), _, _⟩, _, _, _, _⟩ _ _ _ _); refine RH.cP Try.call85 ?_; refine ⟨_, l2Elements_c _ _ (by omega) hl, ?_⟩; rintro _ _ ⟨rfl, rfl⟩) | ((with_reducible show RH _ _ _ _ _ _ _ _); refine RH.val (hK := ?_)) | (with_reducible show RL _ _ _ (_ :: _) _ _ _; first | refine RL.guardYes rfl rfl rfl rfl ?_ | refine RL.guardNoS rfl rfl rfl rfl rfl rfl ?_ | refine RL.splitD rfl rfl rfl (fun h => ?_) (fun h => ?_)) | (with_reducible first | refine Run.seq ?_ | refine Run.region ?_ | refine Run.ret ?_) | (with_reducible refine seqN (K := Run _ _ _ _) ?_))
  all_goals first
    | (exfalso; omega)
    | (refine ⟨eA, _, [], resA, .ch .nil, ?_⟩
       exact ⟨congrArg vbool (by rw [rwB, decide_eq_true (by omega)]; rfl), rfl⟩)
    | (refine ⟨eA, _, [], resA, .ch .nil, ?_⟩
       exact ⟨congrArg vbool (by rw [rwB, decide_eq_false (by omega)]; rfl), rfl⟩)
set_option maxRecDepth 10000 in
set_option maxHeartbeats 4000000 in
theorem specRef_c (n : Int) (os : List (Int × List Int)) (a : Int) (rs : List (List Int × List Int)) (rows : List Row) (hol : os.length ≤ 4611686018427387904) (ho : OpsLen os) (hl : rs.length ≤ 4611686018427387904) (hr : ∀ y ∈ rs, y.1.length ≤ 4611686018427387904 ∧ y.2.length ≤ 4611686018427387904) (hrl : rows.length ≤ 4611686018427387904) (hrr : ∀ t ∈ rows, t.length ≤ 4611686018427387904) :
    Spec Try.prog 53 [vagg [vint n, vsl 2 (fun y : Int × (List Int) => [vint y.1, vsl 1 (fun x : Int => [vint x]) y.2]) os], vagg [vint a, vsl 2 (fun y : (List Int) × (List Int) => [vsl 1 (fun x : Int => [vint x]) y.1, vsl 1 (fun x : Int => [vint x]) y.2]) rs], vsl 1 (fun t : List Int => [vsl 1 (fun x : Int => [vint x]) t]) rows] [] (RefRes n os a rs rows) := by
  have hM := l15Both_c n os a rs hol ho hl hr
  cases hm : mayB n os a rs with
  | false =>
    have e : refOk n os a rs rows = false := by rw [refOk, hm]; rfl
    rw [hm] at hM
    refine Spec.of_run2 (n := 139) Try.func53 rfl Try.results53 Try.ntmps53 rfl ?_
    repeat' (first | (with_reducible first | refine RL.done ?_ | refine RL.app0 ?_) | (with_reducible refine RL.wanted ?_ ?_; exact rfl) | ((with_reducible show RH _ _ _ ⟨some 3, .box _ _, _, _, _, _⟩ _ _ _ _); (refine RH.boxAgg rfl rfl ?_; rintro _ _ ⟨b3, rfl, rfl⟩)) | ((with_reducible show RH _ _ _ ⟨some 4, .box _ _, _, _, _, _⟩ _ _ _ _); (refine RH.boxAgg rfl rfl ?_; rintro _ _ ⟨b4, rfl, rfl⟩)) | ((with_reducible show RH _ _ _ ⟨_, .call ⟨.value (.func 114), _, _⟩, _, _, _, _⟩ _ _ _ _); refine RH.cP Try.call114 ?_; refine ⟨_, hM, ?_⟩; rintro _ _ ⟨rfl, rfl⟩) | ((with_reducible show RH _ _ _ _ _ _ _ _); refine RH.val (hK := ?_)) | (with_reducible show RL _ _ _ (_ :: _) _ _ _; refine RL.guardNoS rfl rfl rfl rfl rfl rfl ?_) | (with_reducible first | refine Run.seq ?_ | refine Run.region ?_ | refine Run.ret ?_) | (with_reducible show Run _ _ (.cond _ _ _) _ _ _; refine Run.condT rfl ?_) | (with_reducible first | refine seqN (K := Run _ _ _ _) ?_ | refine seqR ?_))
    all_goals first
      | (exfalso; simp_all; done)
      | (refine ⟨eA, _, [], resA, .ch .nil, ?_⟩
         exact ⟨by rw [refOk_at e, e]; rfl, rfl⟩)
  | true =>
    rw [hm] at hM
    by_cases hlen : rows.length ≤ 150
    · obtain ⟨N, k0, size, rfl, rfl, hk, hfe⟩ := mal_ok hm
      have hsz := rowS_le hk.n4 hk.cond
      have hN : N = 1 ∨ N = 2 ∨ N = 3 ∨ N = 4 := by have := hk.n1; have := hk.n4; omega
      have hFl := fstR_length N k0 size (pats rs) k0
      have hFi := fstR_inv (k := k0) (size := size) hk.n1 rs
      have h2 := hk.k2
      have h3 := hk.k3
      have hn1 := hk.n1
      have hn4 := hk.n4
      obtain ⟨_, hn8, ho4, hops⟩ := algB_at hk.alg
      have eok : refOk (N : Int) os (k0 : Int) rs rows = rows.all (rwB (rowS N rs) N) := by
        rw [refOk, hm, decide_eq_true hlen, Int.toNat_natCast]; rfl
      have ev : refV (N : Int) os (k0 : Int) rs rows = (rows.all (rwB (rowS N rs) N) && refB N os (fstR N k0 size (pats rs) k0) rs rows) := by
        rw [refV, eok, hfe, Int.toNat_natCast]
      refine Spec.of_run2 (n := 139) Try.func53 rfl Try.results53 Try.ntmps53 rfl ?_
      repeat' (first | (with_reducible first | refine RL.done ?_ | refine RL.app0 ?_) | (with_reducible refine RL.wanted ?_ ?_; exact rfl) | ((with_reducible show RH _ _ _ ⟨some 3, .box _ _, _, _, _, _⟩ _ _ _ _); (refine RH.boxAgg rfl rfl ?_; rintro _ _ ⟨b3, rfl, rfl⟩)) | ((with_reducible show RH _ _ _ ⟨some 4, .box _ _, _, _, _, _⟩ _ _ _ _); (refine RH.boxAgg rfl rfl ?_; rintro _ _ ⟨b4, rfl, rfl⟩)) | ((with_reducible show RH _ _ _ ⟨_, .call ⟨.value (.func 114), _, _⟩, _, _, _, _⟩ _ _ _ _); refine RH.cP Try.call114 ?_; refine ⟨_, hM, ?_⟩; rintro _ _ ⟨rfl, rfl⟩) | ((with_reducible show RH _ _ _ ⟨_, .call ⟨.value (.func 115), _, _⟩, _, _, _, _⟩ _ _ _ _); refine RH.cP Try.call115 ?_; refine ⟨_, l15Patterns_c (k0 : Int) rs hk.cond, ?_⟩; rintro _ _ ⟨s28, rfl, rfl⟩; refine RL.app1 ?_; refine RL.frzS ?_) | ((with_reducible show RH _ _ _ _ _ _ _ _); refine RH.val (hK := ?_)) | (with_reducible show RL _ _ _ (_ :: _) _ _ _; refine RL.guardYes rfl rfl rfl rfl ?_) | (with_reducible first | refine Run.seq ?_ | refine Run.region ?_ | refine Run.block ?_ | refine Run.skip ?_ | refine Run.ret ?_) | (with_reducible show Run _ _ (.cond _ _ _) _ _ _; refine Run.condD rfl (fun h => ?_) (fun h => ?_)) | (with_reducible first | refine seqN (K := Run _ _ _ _) ?_ | refine seqR ?_))
      all_goals first
        | (exfalso; omega)
        | (exfalso; simp_all; done)
        | skip
      refine Run.loop (α := Nat) (fun m => [(2, vsl 1 (fun t : List Int => [vsl 1 (fun x : Int => [vint x]) t]) rows), (3, vptr b3 0), (4, vptr b4 0), (8, vsl 1 (fun t : List Int => [vsl 1 (fun x : Int => [vint x]) t]) (pats rs)), (9, vint (m : Int))])
        (fun _ => [hcells b4 [vint (k0 : Int), vsl 2 (fun y : (List Int) × (List Int) => [vsl 1 (fun x : Int => [vint x]) y.1, vsl 1 (fun x : Int => [vint x]) y.2]) rs], hcells b3 [vint (N : Int), vsl 2 (fun y : Int × (List Int) => [vint y.1, vsl 1 (fun x : Int => [vint x]) y.2]) os]]) (fun m => m ≤ rows.length ∧ (rows.take m).all (rwB (rowS N rs) N) = true) (fun m => rows.length - m) 0 ⟨Nat.zero_le _, rfl⟩ (Ent.of slA chA) ?_
      rintro m ⟨hmm, hall⟩
      rcases Nat.lt_or_eq_of_le hmm with h9 | h9
      · cases hrw : rwB (rowS N rs) N rows[m] with
        | false =>
          have hno := all_no rows m h9 hrw
          have e1 : refOk (N : Int) os (k0 : Int) rs rows = false := by rw [eok, hno]
          have e2 := refOk_at e1
          have hir := isRowM_c N hn1 hn4 rows[m] (k0 : Int) rs hk.cond (hrr _ (List.getElem_mem _))
          repeat' (first | (with_reducible first | refine RL.done ?_ | refine RD.app0 ?_) | (with_reducible refine RL.wanted ?_ ?_; exact rfl) | ((with_reducible show Run _ _ (.region 7 _ true) _ _ _); refine Run.regionD (fun i => false) rfl ?_; change RD _ _ _ _ _ _ 9 (dm 9 0) _ _) | ((with_reducible show RD _ _ 7 _ _ _ _ _ _ _); first | ((with_reducible show RD _ _ _ _ _ _ _ (dm 9 0) _ _); refine RD.tk 0 (dm 9 386) (dm 9 1) (hK := ?_)) | ((with_reducible show RD _ _ _ _ _ _ _ (dm 9 1) _ _); refine RD.tk 1 (dm 9 384) (dm 9 3) (hK := ?_)) | ((with_reducible show RD _ _ _ _ _ _ _ (dm 9 3) _ _); refine RD.tk 2 (dm 9 432) (dm 9 7) (hK := ?_)) | ((with_reducible show RD _ _ _ _ _ _ _ (dm 9 7) _ _); refine RD.tk 3 (dm 9 432) (dm 9 15) (hK := ?_)) | ((with_reducible show RD _ _ _ _ _ _ _ (dm 9 15) _ _); refine RD.tk 4 (dm 9 416) (dm 9 31) (hK := ?_)) | ((with_reducible show RD _ _ _ _ _ _ _ (dm 9 31) _ _); refine RD.tk 5 (dm 9 384) (dm 9 63) (hK := ?_)) | ((with_reducible show RD _ _ _ _ _ _ _ (dm 9 63) _ _); refine RD.tk 6 (dm 9 384) (dm 9 127) (hK := ?_)) | ((with_reducible show RD _ _ _ _ _ _ _ (dm 9 127) _ _); refine RD.a1 7 ?_) | ((with_reducible show RD _ _ _ _ _ _ _ (dm 9 255) _ _); refine RD.tk 8 (dm 9 0) (dm 9 511) (hK := ?_)) | ((with_reducible show RD _ _ _ _ _ _ 0 _ _ _); refine RD.done (by kernel_rfl) ?_)) | ((with_reducible show RO _ _ 7 _ _ _ _ _ _ _ _); ((with_reducible show RO _ _ _ _ _ _ _ (dm 9 127) 7 _ _); (refine RO.cP (dm 9 255) Try.call116 ?_; refine ⟨_, isRowM_c N hn1 hn4 rows[m] (k0 : Int) rs hk.cond (hrr _ (List.getElem_mem _)), ?_⟩; rintro _ _ ⟨rfl, rfl⟩))) | ((with_reducible show RH _ _ _ _ _ _ _ _); refine RH.val (hK := ?_)) | (with_reducible first | refine Run.seq ?_ | refine Run.region ?_ | refine Run.block ?_ | refine Run.skip ?_ | refine Run.exit ?_ | refine Run.ret ?_) | (with_reducible show Run _ _ (.cond _ _ _) _ _ _; first | refine Run.condD rfl (fun h => ?_) (fun h => ?_) | refine Run.condNB rfl (fun h => ?_) (fun h => ?_)) | (with_reducible first | refine seqN (K := Run _ _ _ _) ?_ | refine seqE ?_ | refine seqR ?_ | refine blockN ?_ | refine blockR ?_ | refine blockE ?_))
          all_goals first
            | (exfalso; omega)
            | (exfalso; simp_all; done)
            | (refine ⟨eA, _, [], resA, .ch .nil, ?_⟩
               exact ⟨by rw [e2, e1]; rfl, rfl⟩)
        | true =>
          have hta := all_step hall h9 hrw
          repeat' (first | (with_reducible first | refine RL.done ?_ | refine RD.app0 ?_) | (with_reducible refine RL.wanted ?_ ?_; exact rfl) | ((with_reducible show Run _ _ (.region 7 _ true) _ _ _); refine Run.regionD (fun i => false) rfl ?_; change RD _ _ _ _ _ _ 9 (dm 9 0) _ _) | ((with_reducible show RD _ _ 7 _ _ _ _ _ _ _); first | ((with_reducible show RD _ _ _ _ _ _ _ (dm 9 0) _ _); refine RD.tk 0 (dm 9 386) (dm 9 1) (hK := ?_)) | ((with_reducible show RD _ _ _ _ _ _ _ (dm 9 1) _ _); refine RD.tk 1 (dm 9 384) (dm 9 3) (hK := ?_)) | ((with_reducible show RD _ _ _ _ _ _ _ (dm 9 3) _ _); refine RD.tk 2 (dm 9 432) (dm 9 7) (hK := ?_)) | ((with_reducible show RD _ _ _ _ _ _ _ (dm 9 7) _ _); refine RD.tk 3 (dm 9 432) (dm 9 15) (hK := ?_)) | ((with_reducible show RD _ _ _ _ _ _ _ (dm 9 15) _ _); refine RD.tk 4 (dm 9 416) (dm 9 31) (hK := ?_)) | ((with_reducible show RD _ _ _ _ _ _ _ (dm 9 31) _ _); refine RD.tk 5 (dm 9 384) (dm 9 63) (hK := ?_)) | ((with_reducible show RD _ _ _ _ _ _ _ (dm 9 63) _ _); refine RD.tk 6 (dm 9 384) (dm 9 127) (hK := ?_)) | ((with_reducible show RD _ _ _ _ _ _ _ (dm 9 127) _ _); refine RD.a1 7 ?_) | ((with_reducible show RD _ _ _ _ _ _ _ (dm 9 255) _ _); refine RD.tk 8 (dm 9 0) (dm 9 511) (hK := ?_)) | ((with_reducible show RD _ _ _ _ _ _ 0 _ _ _); refine RD.done (by kernel_rfl) ?_)) | ((with_reducible show RO _ _ 7 _ _ _ _ _ _ _ _); ((with_reducible show RO _ _ _ _ _ _ _ (dm 9 127) 7 _ _); (refine RO.cP (dm 9 255) Try.call116 ?_; refine ⟨_, isRowM_c N hn1 hn4 rows[m] (k0 : Int) rs hk.cond (hrr _ (List.getElem_mem _)), ?_⟩; rintro _ _ ⟨rfl, rfl⟩))) | ((with_reducible show RH _ _ _ _ _ _ _ _); refine RH.val (hK := ?_)) | (with_reducible first | refine Run.seq ?_ | refine Run.region ?_ | refine Run.block ?_ | refine Run.skip ?_ | refine Run.exit ?_ | refine Run.ret ?_) | (with_reducible show Run _ _ (.cond _ _ _) _ _ _; first | refine Run.condD rfl (fun h => ?_) (fun h => ?_) | refine Run.condNB rfl (fun h => ?_) (fun h => ?_)) | (with_reducible first | refine seqN (K := Run _ _ _ _) ?_ | refine seqE ?_ | refine seqR ?_ | refine blockN ?_ | refine blockR ?_ | refine blockE ?_))
          all_goals first
            | (exfalso; omega)
            | (exfalso; simp_all; done)
            | (with_reducible refine seqN ?_
               exact ⟨m + 1, ⟨by omega, hta⟩, by omega, Ent.of slA chA⟩)
      · subst h9
        rw [List.take_length] at hall
        have e1 : refOk (N : Int) os (k0 : Int) rs rows = true := by rw [eok, hall]
        have hD := rw_inv hall
        rw [hall, Bool.true_and] at ev
        obtain ⟨F, hFe⟩ : ∃ F, fstR N k0 size (pats rs) k0 = F := ⟨_, rfl⟩
        rw [hFe] at hFl hFi ev
        have hF1 : 1 ≤ F.length := by omega
        repeat' (first | (with_reducible refine RL.done ?_) | (with_reducible refine RL.wanted ?_ ?_; exact rfl) | ((with_reducible show RH _ _ _ ⟨_, .call ⟨.value (.func 117), _, _⟩, _, _, _, _⟩ _ _ _ _); refine RH.cP Try.call117 ?_; refine ⟨_, l15First_c N k0 size hk.n1 hk.n4 rs hk.cond hk.pw hk.few, ?_⟩; rintro _ _ ⟨s47, rfl, rfl⟩; refine RL.app1 ?_; refine RL.frzS ?_) | ((with_reducible show RH _ _ _ _ _ _ _ _); refine RH.val (hK := ?_)) | (with_reducible first | refine Run.seq ?_ | refine Run.region ?_ | refine Run.block ?_ | refine Run.skip ?_ | refine Run.exit ?_) | (with_reducible show Run _ _ (.cond _ _ _) _ _ _; refine Run.condD rfl (fun h => ?_) (fun h => ?_)) | (with_reducible first | refine seqN (K := Run _ _ _ _) ?_ | refine seqE ?_ | refine blockE ?_))
        all_goals first
          | (exfalso; omega)
          | skip
        rw [hFe]
        refine Run.loop (α := Nat) (fun m => [(2, vsl 1 (fun t : List Int => [vsl 1 (fun x : Int => [vint x]) t]) rows), (3, vptr b3 0), (4, vptr b4 0), (8, vsl 1 (fun t : List Int => [vsl 1 (fun x : Int => [vint x]) t]) (pats rs)), (10, vsl 1 (fun t : List Int => [vsl 1 (fun x : Int => [vint x]) t]) F), (11, vint (m : Int))])
          (fun _ => [hcells b4 [vint (k0 : Int), vsl 2 (fun y : (List Int) × (List Int) => [vsl 1 (fun x : Int => [vint x]) y.1, vsl 1 (fun x : Int => [vint x]) y.2]) rs], hcells b3 [vint (N : Int), vsl 2 (fun y : Int × (List Int) => [vint y.1, vsl 1 (fun x : Int => [vint x]) y.2]) os]]) (fun m => m ≤ F.length ∧ (F.take m).all (memB rows) = true) (fun m => F.length - m) 0 ⟨Nat.zero_le _, rfl⟩ (Ent.of slA chA) ?_
        rintro m ⟨hmm, hallF⟩
        rcases Nat.lt_or_eq_of_le hmm with h9 | h9
        · repeat' (first | (with_reducible first | refine RL.done ?_ | refine RL.app0 ?_) | (with_reducible refine RL.wanted ?_ ?_; exact rfl) | ((with_reducible show RH _ _ _ ⟨_, .call ⟨.value (.func 118), _, _⟩, _, _, _, _⟩ _ _ _ _); refine RH.cP Try.call118 ?_; refine ⟨_, l12Place_c rows _ hrl hrr, ?_⟩; rintro _ _ ⟨rfl, rfl⟩) | ((with_reducible show RH _ _ _ _ _ _ _ _); refine RH.val (hK := ?_)) | (with_reducible first | refine Run.seq ?_ | refine Run.region ?_ | refine Run.block ?_ | refine Run.skip ?_ | refine Run.exit ?_ | refine Run.ret ?_) | (with_reducible show Run _ _ (.cond _ _ _) _ _ _; refine Run.condD rfl (fun h => ?_) (fun h => ?_)) | (with_reducible first | refine seqN (K := Run _ _ _ _) ?_ | refine seqE ?_ | refine seqR ?_ | refine blockN ?_ | refine blockR ?_ | refine blockE ?_))
          all_goals first
            | (exfalso; omega)
            | (have hp := place_no (rows := rows) (t := F[m]) (by assumption)
               refine ⟨eA, _, [], resA, .ch .nil, ?_⟩
               exact ⟨by rw [ev, refB, all_no F m h9 hp, e1]; rfl, rfl⟩)
            | (have hp := place_yes (rows := rows) (t := F[m]) (by assumption)
               with_reducible refine seqN ?_
               exact ⟨m + 1, ⟨by omega, all_step hallF h9 hp⟩, by omega, Ent.of slA chA⟩)
        · subst h9
          have hFall := all_end hallF (Nat.le_refl _)
          have hr1 : 1 ≤ rows.length := by
            rw [List.all_eq_true] at hFall
            have := hFall (F[0]'hF1) (List.getElem_mem _)
            exact List.length_pos_of_mem (of_decide_eq_true this)
          rw [refB, hFall, Bool.true_and] at ev
          repeat' (first | (with_reducible refine RL.done ?_) | (with_reducible refine RL.wanted ?_ ?_; exact rfl) | ((with_reducible show RH _ _ _ _ _ _ _ _); refine RH.val (hK := ?_)) | (with_reducible first | refine Run.seq ?_ | refine Run.region ?_ | refine Run.block ?_ | refine Run.skip ?_ | refine Run.exit ?_) | (with_reducible show Run _ _ (.cond _ _ _) _ _ _; refine Run.condD rfl (fun h => ?_) (fun h => ?_)) | (with_reducible first | refine seqN (K := Run _ _ _ _) ?_ | refine seqE ?_ | refine blockE ?_))
          all_goals first
            | (exfalso; omega)
            | skip
          refine Run.loop (α := Nat) (fun m => [(2, vsl 1 (fun t : List Int => [vsl 1 (fun x : Int => [vint x]) t]) rows), (3, vptr b3 0), (4, vptr b4 0), (8, vsl 1 (fun t : List Int => [vsl 1 (fun x : Int => [vint x]) t]) (pats rs)), (10, vsl 1 (fun t : List Int => [vsl 1 (fun x : Int => [vint x]) t]) F), (12, vint (m : Int))])
            (fun _ => [hcells b4 [vint (k0 : Int), vsl 2 (fun y : (List Int) × (List Int) => [vsl 1 (fun x : Int => [vint x]) y.1, vsl 1 (fun x : Int => [vint x]) y.2]) rs], hcells b3 [vint (N : Int), vsl 2 (fun y : Int × (List Int) => [vint y.1, vsl 1 (fun x : Int => [vint x]) y.2]) os]]) (fun m => m ≤ rows.length ∧ (rows.take m).all (obB N rs) = true) (fun m => rows.length - m) 0 ⟨Nat.zero_le _, rfl⟩ (Ent.of slA chA) ?_
          rintro m ⟨hmm, hallO⟩
          rcases Nat.lt_or_eq_of_le hmm with h9 | h9
          · have hob := l15Obeys_c N hN rows[m] (k0 : Int) rs hk.cond (pats rs) rfl (hD.row _ (List.getElem_mem h9)).1
            cases hob2 : rs.all (obRule N rows[m] (pats rs)) with
            | true =>
              have hb2 : obB N rs rows[m] = false := by rw [obB, hob2]; rfl
              rw [hob2] at hob
              repeat' (first | (with_reducible first | refine RL.done ?_ | refine RD.app0 ?_) | (with_reducible refine RL.wanted ?_ ?_; exact rfl) | ((with_reducible show Run _ _ (.region 18 _ true) _ _ _); refine Run.regionD (fun i => false) rfl ?_; change RD _ _ _ _ _ _ 9 (dm 9 0) _ _) | ((with_reducible show RD _ _ 18 _ _ _ _ _ _ _); first | ((with_reducible show RD _ _ _ _ _ _ _ (dm 9 0) _ _); refine RD.tk 0 (dm 9 258) (dm 9 1) (hK := ?_)) | ((with_reducible show RD _ _ _ _ _ _ _ (dm 9 1) _ _); refine RD.tk 1 (dm 9 256) (dm 9 3) (hK := ?_)) | ((with_reducible show RD _ _ _ _ _ _ _ (dm 9 3) _ _); refine RD.tk 2 (dm 9 304) (dm 9 7) (hK := ?_)) | ((with_reducible show RD _ _ _ _ _ _ _ (dm 9 7) _ _); refine RD.tk 3 (dm 9 304) (dm 9 15) (hK := ?_)) | ((with_reducible show RD _ _ _ _ _ _ _ (dm 9 15) _ _); refine RD.tk 4 (dm 9 288) (dm 9 31) (hK := ?_)) | ((with_reducible show RD _ _ _ _ _ _ _ (dm 9 31) _ _); refine RD.tk 5 (dm 9 256) (dm 9 63) (hK := ?_)) | ((with_reducible show RD _ _ _ _ _ _ _ (dm 9 63) _ _); refine RD.tk 6 (dm 9 256) (dm 9 127) (hK := ?_)) | ((with_reducible show RD _ _ _ _ _ _ _ (dm 9 127) _ _); refine RD.tk 7 (dm 9 256) (dm 9 255) (hK := ?_)) | ((with_reducible show RD _ _ _ _ _ _ _ (dm 9 255) _ _); refine RD.a1 8 ?_) | ((with_reducible show RD _ _ _ _ _ _ 0 _ _ _); refine RD.done (by kernel_rfl) ?_)) | ((with_reducible show RO _ _ 18 _ _ _ _ _ _ _ _); ((with_reducible show RO _ _ _ _ _ _ _ (dm 9 255) 8 _ _); (refine RO.cP (dm 9 511) Try.call119 ?_; refine ⟨_, hob, ?_⟩; rintro _ _ ⟨rfl, rfl⟩))) | ((with_reducible show RH _ _ _ _ _ _ _ _); refine RH.val (hK := ?_)) | (with_reducible first | refine Run.seq ?_ | refine Run.region ?_ | refine Run.block ?_ | refine Run.skip ?_ | refine Run.exit ?_ | refine Run.ret ?_) | (with_reducible show Run _ _ (.cond _ _ _) _ _ _; first | refine Run.condT rfl ?_ | refine Run.condD rfl (fun h => ?_) (fun h => ?_)) | (with_reducible first | refine seqN (K := Run _ _ _ _) ?_ | refine seqE ?_ | refine seqR ?_ | refine blockR ?_ | refine blockE ?_))
              all_goals first
                | (exfalso; omega)
                | (refine ⟨eA, _, [], resA, .ch .nil, ?_⟩
                   exact ⟨by rw [ev, all_no rows m h9 hb2, e1]; rfl, rfl⟩)
            | false =>
              have hb2 : obB N rs rows[m] = true := by rw [obB, hob2]; rfl
              rw [hob2] at hob
              repeat' (first | (with_reducible first | refine RL.done ?_ | refine RD.app0 ?_) | (with_reducible refine RL.wanted ?_ ?_; exact rfl) | ((with_reducible show Run _ _ (.region 18 _ true) _ _ _); refine Run.regionD (fun i => false) rfl ?_; change RD _ _ _ _ _ _ 9 (dm 9 0) _ _) | ((with_reducible show RD _ _ 18 _ _ _ _ _ _ _); first | ((with_reducible show RD _ _ _ _ _ _ _ (dm 9 0) _ _); refine RD.tk 0 (dm 9 258) (dm 9 1) (hK := ?_)) | ((with_reducible show RD _ _ _ _ _ _ _ (dm 9 1) _ _); refine RD.tk 1 (dm 9 256) (dm 9 3) (hK := ?_)) | ((with_reducible show RD _ _ _ _ _ _ _ (dm 9 3) _ _); refine RD.tk 2 (dm 9 304) (dm 9 7) (hK := ?_)) | ((with_reducible show RD _ _ _ _ _ _ _ (dm 9 7) _ _); refine RD.tk 3 (dm 9 304) (dm 9 15) (hK := ?_)) | ((with_reducible show RD _ _ _ _ _ _ _ (dm 9 15) _ _); refine RD.tk 4 (dm 9 288) (dm 9 31) (hK := ?_)) | ((with_reducible show RD _ _ _ _ _ _ _ (dm 9 31) _ _); refine RD.tk 5 (dm 9 256) (dm 9 63) (hK := ?_)) | ((with_reducible show RD _ _ _ _ _ _ _ (dm 9 63) _ _); refine RD.tk 6 (dm 9 256) (dm 9 127) (hK := ?_)) | ((with_reducible show RD _ _ _ _ _ _ _ (dm 9 127) _ _); refine RD.tk 7 (dm 9 256) (dm 9 255) (hK := ?_)) | ((with_reducible show RD _ _ _ _ _ _ _ (dm 9 255) _ _); refine RD.a1 8 ?_) | ((with_reducible show RD _ _ _ _ _ _ 0 _ _ _); refine RD.done (by kernel_rfl) ?_)) | ((with_reducible show RO _ _ 18 _ _ _ _ _ _ _ _); ((with_reducible show RO _ _ _ _ _ _ _ (dm 9 255) 8 _ _); (refine RO.cP (dm 9 511) Try.call119 ?_; refine ⟨_, hob, ?_⟩; rintro _ _ ⟨rfl, rfl⟩))) | ((with_reducible show RH _ _ _ _ _ _ _ _); refine RH.val (hK := ?_)) | (with_reducible first | refine Run.seq ?_ | refine Run.region ?_ | refine Run.block ?_ | refine Run.skip ?_ | refine Run.exit ?_) | (with_reducible show Run _ _ (.cond _ _ _) _ _ _; first | refine Run.condF rfl ?_ | refine Run.condD rfl (fun h => ?_) (fun h => ?_)) | (with_reducible first | refine seqN (K := Run _ _ _ _) ?_ | refine seqE ?_ | refine blockN ?_ | refine blockE ?_))
              all_goals first
                | (exfalso; omega)
                | (with_reducible refine seqN ?_
                   exact ⟨m + 1, ⟨by omega, all_step hallO h9 hb2⟩, by omega, Ent.of slA chA⟩)
          · subst h9
            rw [List.take_length] at hallO
            rw [hallO, Bool.true_and] at ev
            repeat' (first | (with_reducible refine RL.done ?_) | (with_reducible refine RL.wanted ?_ ?_; exact rfl) | ((with_reducible show RH _ _ _ _ _ _ _ _); refine RH.val (hK := ?_)) | (with_reducible first | refine Run.seq ?_ | refine Run.region ?_ | refine Run.block ?_ | refine Run.skip ?_ | refine Run.exit ?_) | (with_reducible show Run _ _ (.cond _ _ _) _ _ _; refine Run.condD rfl (fun h => ?_) (fun h => ?_)) | (with_reducible first | refine seqN (K := Run _ _ _ _) ?_ | refine seqE ?_ | refine blockE ?_))
            all_goals first
              | (exfalso; omega)
              | skip
            refine Run.loop (α := Nat) (fun j => [(2, vsl 1 (fun t : List Int => [vsl 1 (fun x : Int => [vint x]) t]) rows), (3, vptr b3 0), (10, vsl 1 (fun t : List Int => [vsl 1 (fun x : Int => [vint x]) t]) F), (13, vint (j : Int))])
              (fun _ => [hcells b3 [vint (N : Int), vsl 2 (fun y : Int × (List Int) => [vint y.1, vsl 1 (fun x : Int => [vint x]) y.2]) os]]) (fun j => j ≤ os.length ∧ (os.take j).all (clOp (N : Int) (rowS N rs) rows) = true) (fun j => os.length - j) 0 ⟨Nat.zero_le _, rfl⟩ (Ent.of slA chA) ?_
            rintro j ⟨hj, hallj⟩
            rcases Nat.lt_or_eq_of_le hj with hop | h9
            · have hf := List.getElem_mem hop
              have hob3 : opB (N : Int) os[j].1 os[j].2 = true := hops _ hf
              have hob4 := hob3
              simp only [opB, Bool.and_eq_true, decide_eq_true_eq] at hob4
              have hf3 : 0 ≤ os[j].1 ∧ os[j].1 ≤ 3 := hob4.1
              have hkf : ((os[j].1.toNat : Nat) : Int) = os[j].1 := by omega
              have hpow := l2Pow_c (rows.length : Int) os[j].1.toNat (by omega) (by omega) (by omega)
              obtain ⟨hp0, hpb⟩ := pw_bound (rows.length : Int) (by omega) (by omega) os[j].1.toNat (by omega)
              have hcN : ((cntR os[j] rows : Nat) : Int) = pw (rows.length : Int) os[j].1.toNat := by rw [cntR]; omega
              rw [hkf, ← hcN] at hpow
              repeat' (first | (with_reducible refine RL.done ?_) | (with_reducible refine RL.wanted ?_ ?_; exact rfl) | ((with_reducible show RH _ _ _ _ _ _ _ _); refine RH.val (hK := ?_)) | (with_reducible first | refine Run.seq ?_ | refine Run.region ?_ | refine Run.block ?_ | refine Run.skip ?_ | refine Run.exit ?_ | refine Run.ret ?_) | (with_reducible show Run _ _ (.cond _ _ _) _ _ _; refine Run.condD rfl (fun h => ?_) (fun h => ?_)) | (with_reducible first | refine seqN (K := Run _ _ _ _) ?_ | refine seqE ?_ | refine blockE ?_))
              all_goals first
                | (exfalso; omega)
                | skip
              refine Run.loop (α := Nat) (fun i => [(2, vsl 1 (fun t : List Int => [vsl 1 (fun x : Int => [vint x]) t]) rows), (3, vptr b3 0), (10, vsl 1 (fun t : List Int => [vsl 1 (fun x : Int => [vint x]) t]) F), (13, vint (j : Int)), (14, vint (i : Int))])
                (fun _ => [hcells b3 [vint (N : Int), vsl 2 (fun y : Int × (List Int) => [vint y.1, vsl 1 (fun x : Int => [vint x]) y.2]) os]]) (fun i => i ≤ cntR os[j] rows ∧ (List.range i).all (clAt (N : Int) (rowS N rs) rows os[j]) = true) (fun i => cntR os[j] rows - i) 0 ⟨Nat.zero_le _, rfl⟩ (Ent.of slA .refl) ?_
              rintro i ⟨hi, halli⟩
              rcases Nat.lt_or_eq_of_le hi with hi9 | hi9
              · have hnum := low_in (k := os[j].1.toNat) (i := i) hr1
                have hll := lowd_length (i : Int) (rows.length : Int) os[j].1.toNat
                have hargs := l2Args_c (i : Int) (rows.length : Int) os[j].1.toNat (by omega) (by omega) (by omega) (by omega)
                rw [hkf] at hargs
                have hap : ApOk (N : Int) os[j].2 (chosen rows (lowd (i : Int) (rows.length : Int) os[j].1.toNat)) (rowS N rs) := hD.ap3 hk.alg (by omega) hf (by rw [hll]) hnum
                have hcomp := l12Compose_c (N : Int) os[j].1 os[j].2 (chosen rows (lowd (i : Int) (rows.length : Int) os[j].1.toNat)) (rowS N rs) hap
                rw [← (hFi.row _ (List.getElem_mem hF1)).1] at hcomp
                repeat' (first | (with_reducible first | refine RL.done ?_ | refine RL.app0 ?_) | (with_reducible refine RL.wanted ?_ ?_; exact rfl) | ((with_reducible show RH _ _ _ ⟨some 106, .buildSlice _ _ _, _, _, _, _⟩ _ _ _ _); (refine RH.eff rfl rfl (EOpS.e (EOpS.slitV (by ((repeat (first | exact Elts.nil | apply Elts.one1 rfl | apply Elts.agg2 rfl)); done)) (by simp) rfl rfl)) ?_; rintro _ _ ⟨b106, rfl, rfl⟩)) | ((with_reducible show RH _ _ _ ⟨_, .call ⟨.value (.func 80), _, _⟩, _, _, _, _⟩ _ _ _ _); refine RH.cP Try.call80 ?_; refine ⟨_, hpow, ?_⟩; rintro _ _ ⟨rfl, rfl⟩) | ((with_reducible show RH _ _ _ ⟨_, .call ⟨.value (.func 120), _, _⟩, _, _, _, _⟩ _ _ _ _); refine RH.cP Try.call120 ?_; refine ⟨_, hargs, ?_⟩; rintro _ _ ⟨s105, rfl, rfl⟩; refine RL.app1 ?_; refine RL.frzI ?_) | ((with_reducible show RH _ _ _ _ _ _ _ _); refine RH.val (hK := ?_)) | (with_reducible first | refine Run.seq ?_ | refine Run.region ?_ | refine Run.block ?_ | refine Run.skip ?_ | refine Run.exit ?_) | (with_reducible show Run _ _ (.cond _ _ _) _ _ _; refine Run.condD rfl (fun h => ?_) (fun h => ?_)) | (with_reducible first | refine seqN (K := Run _ _ _ _) ?_ | refine seqE ?_ | refine blockN ?_ | refine blockE ?_))
                all_goals first
                  | (exfalso; omega)
                  | skip
                refine Run.sent (T := [hsl tRow (vsv (some ⟨b106, 0, none⟩, 0, 0)) [], hcells b3 [vint (N : Int), vsl 2 (fun y : Int × (List Int) => [vint y.1, vsl 1 (fun x : Int => [vint x]) y.2]) os]]) (SEnt.packNil tRow rfl) ?_
                refine Run.loop (α := Nat × Sv) (fun x => [(2, vsl 1 (fun t : List Int => [vsl 1 (fun x : Int => [vint x]) t]) rows), (3, vptr b3 0), (10, vsl 1 (fun t : List Int => [vsl 1 (fun x : Int => [vint x]) t]) F), (13, vint (j : Int)), (14, vint (i : Int)), (15, vsl 1 (fun x : Int => [vint x]) ((lowd (i : Int) (rows.length : Int) os[j].1.toNat))), (16, vlit (vsv x.2)), (17, vint (x.1 : Int))]) (fun x => [hsl tRow (vsv x.2) (chosen rows ((lowd (i : Int) (rows.length : Int) os[j].1.toNat).take x.1)), hcells b3 [vint (N : Int), vsl 2 (fun y : Int × (List Int) => [vint y.1, vsl 1 (fun x : Int => [vint x]) y.2]) os]]) (fun x => x.1 ≤ (lowd (i : Int) (rows.length : Int) os[j].1.toNat).length) (fun x => (lowd (i : Int) (rows.length : Int) os[j].1.toNat).length - x.1) (0, (some ⟨b106, 0, none⟩, 0, 0)) (by simp) (Ent.of slA .refl) ?_
                rintro ⟨q, sq⟩ hq
                (try dsimp only at hq ⊢)
                have hcl : (chosen rows ((lowd (i : Int) (rows.length : Int) os[j].1.toNat).take q)).length = q := by simp [chosen]; omega
                rcases Nat.lt_or_eq_of_le hq with hq9 | hq9
                · have hxq := hnum _ (List.getElem_mem hq9)
                  repeat' (first | (with_reducible refine RL.done ?_) | (with_reducible refine RL.wanted ?_ ?_; exact rfl) | ((with_reducible show RH _ _ _ ⟨some 121, .buildSlice _ _ _, _, _, _, _⟩ _ _ _ _); (refine RH.eff rfl rfl (EOpS.e (EOpS.slit (fun t : List Int => [vsl 1 (fun x : Int => [vint x]) t]) _ (fun _ _ => rfl) (by ((repeat (first | exact Elts.nil | (apply Elts.cons; exact rfl; exact CellsOf.one))); done)) rfl rfl)) ?_; rintro _ _ ⟨b121, rfl, rfl⟩)) | ((with_reducible show RH _ _ _ ⟨_, .call ⟨.builtin .append, _, _⟩, _, _, _, _⟩ _ _ _ _); (refine RH.appF rfl rfl rfl (by repeat (first | exact Pick.nil | (apply Pick.cons; (with_reducible repeat (first | exact Rem.head | apply Rem.tail))))) (by first | omega | (simp; omega)) (by first | omega | (simp; omega)) ?_); rintro _ _ ⟨s, rfl, rfl⟩) | ((with_reducible show RH _ _ _ _ _ _ _ _); refine RH.val (hK := ?_)) | (with_reducible first | refine Run.seq ?_ | refine Run.region ?_ | refine Run.block ?_ | refine Run.skip ?_ | refine Run.exit ?_) | (with_reducible show Run _ _ (.cond _ _ _) _ _ _; refine Run.condD rfl (fun h => ?_) (fun h => ?_)) | (with_reducible first | refine seqN (K := Run _ _ _ _) ?_ | refine seqE ?_ | refine blockN ?_ | refine blockE ?_))
                  all_goals first
                    | (exfalso; omega)
                    | (with_reducible refine seqN ?_
                       exact ⟨(q + 1, _), by simp; omega, by simp; omega, Ent.of slA (by dsimp only; exact .cons .head (by rw [chosen_step rows _ q hq9 (by omega)]) chA)⟩)
                · subst hq9
                  rw [List.take_length] at hcl ⊢
                  have hstep : memB rows (applyT (N : Int) os[j].2 (chosen rows (lowd (i : Int) (rows.length : Int) os[j].1.toNat)) (F[0]'hF1).length) = true → (List.range (i + 1)).all (clAt (N : Int) (rowS N rs) rows os[j]) = true := fun h => by
                    rw [(hFi.row _ (List.getElem_mem hF1)).1] at h
                    rw [rAll_succ, halli]; exact h
                  have hnot : memB rows (applyT (N : Int) os[j].2 (chosen rows (lowd (i : Int) (rows.length : Int) os[j].1.toNat)) (F[0]'hF1).length) = false → clOp (N : Int) (rowS N rs) rows os[j] = false := fun h => by
                    rw [(hFi.row _ (List.getElem_mem hF1)).1] at h
                    exact rAll_false (clAt (N : Int) (rowS N rs) rows os[j]) i _ hi9 h
                  repeat' (first | (with_reducible first | refine RL.done ?_ | refine RD.app0 ?_) | (with_reducible refine RL.wanted ?_ ?_; exact rfl) | ((with_reducible show Run _ _ (.region 32 _ true) _ _ _); refine Run.regionD (fun i => false) rfl ?_; change RD _ _ _ _ _ _ 16 (dm 16 0) _ _) | ((with_reducible show RD _ _ 32 _ _ _ _ _ _ _); first | ((with_reducible show RD _ _ _ _ _ _ _ (dm 16 0) _ _); refine RD.tk 0 (dm 16 49152) (dm 16 1) (hK := ?_)) | ((with_reducible show RD _ _ _ _ _ _ _ (dm 16 1) _ _); refine RD.tk 1 (dm 16 57348) (dm 16 3) (hK := ?_)) | ((with_reducible show RD _ _ _ _ _ _ _ (dm 16 3) _ _); refine RD.tk 2 (dm 16 57344) (dm 16 7) (hK := ?_)) | ((with_reducible show RD _ _ _ _ _ _ _ (dm 16 7) _ _); refine RD.tk 3 (dm 16 57552) (dm 16 15) (hK := ?_)) | ((with_reducible show RD _ _ _ _ _ _ _ (dm 16 15) _ _); refine RD.tk 4 (dm 16 57536) (dm 16 31) (hK := ?_)) | ((with_reducible show RD _ _ _ _ _ _ _ (dm 16 31) _ _); refine RD.tk 5 (dm 16 57536) (dm 16 63) (hK := ?_)) | ((with_reducible show RD _ _ _ _ _ _ _ (dm 16 63) _ _); refine RD.tk 6 (dm 16 57472) (dm 16 127) (hK := ?_)) | ((with_reducible show RD _ _ _ _ _ _ _ (dm 16 127) _ _); refine RD.tk 7 (dm 16 57344) (dm 16 255) (hK := ?_)) | ((with_reducible show RD _ _ _ _ _ _ _ (dm 16 255) _ _); refine RD.tk 8 (dm 16 57344) (dm 16 511) (hK := ?_)) | ((with_reducible show RD _ _ _ _ _ _ _ (dm 16 511) _ _); refine RD.tk 9 (dm 16 64512) (dm 16 1023) (hK := ?_)) | ((with_reducible show RD _ _ _ _ _ _ _ (dm 16 1023) _ _); refine RD.tk 10 (dm 16 63488) (dm 16 2047) (hK := ?_)) | ((with_reducible show RD _ _ _ _ _ _ _ (dm 16 2047) _ _); refine RD.tk 11 (dm 16 61440) (dm 16 4095) (hK := ?_)) | ((with_reducible show RD _ _ _ _ _ _ _ (dm 16 4095) _ _); refine RD.tk 12 (dm 16 57344) (dm 16 8191) (hK := ?_)) | ((with_reducible show RD _ _ _ _ _ _ _ (dm 16 8191) _ _); refine RD.a1 13 ?_) | ((with_reducible show RD _ _ _ _ _ _ _ (dm 16 16383) _ _); refine RD.a1 14 ?_) | ((with_reducible show RD _ _ _ _ _ _ _ (dm 16 32767) _ _); refine RD.tk 15 (dm 16 0) (dm 16 65535) (hK := ?_)) | ((with_reducible show RD _ _ _ _ _ _ 0 _ _ _); refine RD.done (by kernel_rfl) ?_)) | ((with_reducible show RO _ _ 32 _ _ _ _ _ _ _ _); first | ((with_reducible show RO _ _ _ _ _ _ _ (dm 16 8191) 13 _ _); (refine RO.cL (dm 16 16383) Try.call121 ?_; apply Exists.intro; apply And.intro; (focus ((repeat (first | exact LVs.nil | (apply LVs.sl; (with_reducible repeat (first | exact Has.head | apply Has.tail)); exact inferInstance; exact rfl) | apply LVs.agg | apply LVs.refl)); done)); refine ⟨_, hcomp, (by intro r H h; first | (obtain ⟨rfl, rfl⟩ := h; exact ⟨inferInstance, inferInstance⟩) | (obtain ⟨_, rfl, rfl⟩ := h; exact ⟨inferInstance, inferInstance⟩) | (obtain ⟨_, _, rfl, rfl⟩ := h; exact ⟨inferInstance, inferInstance⟩) | (obtain ⟨_, _, rfl, rfl, _⟩ := h; exact ⟨inferInstance, inferInstance⟩)), ?_⟩; rintro _ _ ⟨s136, rfl, rfl⟩; refine RD.app1 ?_; refine RD.frzI ?_)) | ((with_reducible show RO _ _ _ _ _ _ _ (dm 16 16383) 14 _ _); (refine RO.cP (dm 16 32767) Try.call118 ?_; refine ⟨_, l12Place_c rows _ hrl hrr, ?_⟩; rintro _ _ ⟨rfl, rfl⟩))) | ((with_reducible show RH _ _ _ ⟨some 121, .buildSlice _ _ _, _, _, _, _⟩ _ _ _ _); (refine RH.eff rfl rfl (EOpS.e (EOpS.slit (fun t : List Int => [vsl 1 (fun x : Int => [vint x]) t]) _ (fun _ _ => rfl) (by ((repeat (first | exact Elts.nil | (apply Elts.cons; exact rfl; exact CellsOf.one))); done)) rfl rfl)) ?_; rintro _ _ ⟨b121, rfl, rfl⟩)) | ((with_reducible show RH _ _ _ _ _ _ _ _); refine RH.val (hK := ?_)) | (with_reducible first | refine Run.seq ?_ | refine Run.region ?_ | refine Run.block ?_ | refine Run.skip ?_ | refine Run.exit ?_ | refine Run.ret ?_) | (with_reducible show Run _ _ (.cond _ _ _) _ _ _; refine Run.condD rfl (fun h => ?_) (fun h => ?_)) | (with_reducible first | refine seqN (K := Run _ _ _ _) ?_ | refine seqE ?_ | refine seqR ?_ | refine blockN ?_ | refine blockR ?_ | refine blockE ?_))
                  all_goals first
                    | (exfalso; omega)
                    | (have hp := hnot (place_no (by assumption))
                       refine ⟨eA, _, [], resA, .ch .nil, ?_⟩
                       exact ⟨by rw [ev, clR, all_no os j hop hp, e1]; rfl, rfl⟩)
                    | (have hp := hstep (place_yes (by assumption))
                       with_reducible refine seqN ?_
                       exact ⟨i + 1, ⟨by omega, hp⟩, by omega, Ent.of slA chA⟩)
              · subst hi9
                repeat' (first | (with_reducible first | refine RL.done ?_ | refine RL.app0 ?_) | (with_reducible refine RL.wanted ?_ ?_; exact rfl) | ((with_reducible show RH _ _ _ ⟨_, .call ⟨.value (.func 80), _, _⟩, _, _, _, _⟩ _ _ _ _); refine RH.cP Try.call80 ?_; refine ⟨_, hpow, ?_⟩; rintro _ _ ⟨rfl, rfl⟩) | ((with_reducible show RH _ _ _ _ _ _ _ _); refine RH.val (hK := ?_)) | (with_reducible first | refine Run.seq ?_ | refine Run.region ?_ | refine Run.block ?_ | refine Run.skip ?_ | refine Run.exit ?_) | (with_reducible show Run _ _ (.cond _ _ _) _ _ _; refine Run.condD rfl (fun h => ?_) (fun h => ?_)) | (with_reducible first | refine seqN (K := Run _ _ _ _) ?_ | refine seqE ?_ | refine blockN ?_ | refine blockE ?_))
                all_goals first
                  | (exfalso; omega)
                  | (with_reducible refine seqN ?_
                     exact ⟨j + 1, ⟨by omega, all_step hallj hop halli⟩, by omega, Ent.of slA chA⟩)
            · subst h9
              have hcl := all_end hallj (Nat.le_refl _)
              repeat' (first | (with_reducible refine RL.done ?_) | (with_reducible refine RL.wanted ?_ ?_; exact rfl) | ((with_reducible show RH _ _ _ _ _ _ _ _); refine RH.val (hK := ?_)) | (with_reducible first | refine Run.seq ?_ | refine Run.region ?_ | refine Run.block ?_ | refine Run.skip ?_ | refine Run.exit ?_ | refine Run.ret ?_) | (with_reducible show Run _ _ (.cond _ _ _) _ _ _; refine Run.condD rfl (fun h => ?_) (fun h => ?_)) | (with_reducible first | refine seqN (K := Run _ _ _ _) ?_ | refine seqE ?_ | refine blockE ?_))
              all_goals first
                | (exfalso; omega)
                | (refine ⟨eA, _, [], resA, .ch .nil, ?_⟩
                   exact ⟨by rw [ev, clR, hcl, e1]; rfl, rfl⟩)
    · have e : refOk n os a rs rows = false := by rw [refOk, hm, decide_eq_false hlen]; rfl
      refine Spec.of_run2 (n := 139) Try.func53 rfl Try.results53 Try.ntmps53 rfl ?_
      repeat' (first | (with_reducible first | refine RL.done ?_ | refine RL.app0 ?_) | (with_reducible refine RL.wanted ?_ ?_; exact rfl) | ((with_reducible show RH _ _ _ ⟨some 3, .box _ _, _, _, _, _⟩ _ _ _ _); (refine RH.boxAgg rfl rfl ?_; rintro _ _ ⟨b3, rfl, rfl⟩)) | ((with_reducible show RH _ _ _ ⟨some 4, .box _ _, _, _, _, _⟩ _ _ _ _); (refine RH.boxAgg rfl rfl ?_; rintro _ _ ⟨b4, rfl, rfl⟩)) | ((with_reducible show RH _ _ _ ⟨_, .call ⟨.value (.func 114), _, _⟩, _, _, _, _⟩ _ _ _ _); refine RH.cP Try.call114 ?_; refine ⟨_, hM, ?_⟩; rintro _ _ ⟨rfl, rfl⟩) | ((with_reducible show RH _ _ _ _ _ _ _ _); refine RH.val (hK := ?_)) | (with_reducible show RL _ _ _ (_ :: _) _ _ _; refine RL.guardYes rfl rfl rfl rfl ?_) | (with_reducible first | refine Run.seq ?_ | refine Run.region ?_ | refine Run.skip ?_ | refine Run.ret ?_) | (with_reducible show Run _ _ (.cond _ _ _) _ _ _; refine Run.condD rfl (fun h => ?_) (fun h => ?_)) | (with_reducible first | refine seqN (K := Run _ _ _ _) ?_ | refine seqR ?_))
      all_goals first
        | (exfalso; omega)
        | (exfalso; simp_all; done)
        | (refine ⟨eA, _, [], resA, .ch .nil, ?_⟩
           exact ⟨by rw [refOk_at e, e]; rfl, rfl⟩)
end Go.Proofs.Ytejeeokjjbiadaa
