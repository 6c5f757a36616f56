/- The search for a row that is good: (*impl.rowSearch).round. Proved for this program; conditions: rows of at most 192 places, elements below 8, at most 150 rows. -/
import Derived.Test.YtiifdhdhjioefaaFindI
import Derived.Test.YtiifdhdhjioefaaMalR
namespace Go.Proofs.Ytiifdhdhjioefaa
open Go Go.Proofs
set_option linter.unusedVariables false
theorem opAp' {n : Int} {size : Nat} {c : CS} (hc : CInv n size c) (h1 : 1 ≤ n) (h8 : n ≤ 8) (hsz : size ≤ 1048576) {a : Int} {tb : List Int} (ho : opB n a tb = true) {ns : List Int} (hl : ns.length = a.toNat) (hns : ∀ x ∈ ns, 0 ≤ x ∧ x.toNat < c.1.length) : ApOk n tb (chosen c.1 ns) size := by
  simp only [opB, Bool.and_eq_true, decide_eq_true_eq] at ho
  obtain ⟨⟨h0, h3⟩, h4, h5⟩ := ho
  have hcl : (chosen c.1 ns).length = a.toNat := by simp [chosen, hl]
  refine ⟨h1, h8, by omega, by rw [hcl]; exact h4, fun t ht => ?_, hsz⟩
  obtain ⟨x, hx, rfl⟩ := List.mem_map.1 ht
  have h2 := (hns x hx).2
  rw [List.getD_eq_getElem?_getD, List.getElem?_eq_getElem h2]
  obtain ⟨h6, h7⟩ := hc.row _ (List.getElem_mem h2)
  exact ⟨Nat.le_of_eq h6.symm, h7⟩
set_option maxRecDepth 10000 in
set_option maxHeartbeats 8000000 in
theorem round_c (bq bm : Nat) (s1 s2 : Sv) (n : Int) (os : List (Int × List Int)) (size : Nat) (fk : FuncId) (vs : List Value) (J : HP) (G : List Int → Bool) (hE : Enters Try.prog fk) (hgood : GoodOk fk vs J G n size)
    (c0 : CS) (tr0 b K : Nat) (ha : algB n os = true) (hs0 : QInv n size (c0, tr0, 2)) (hsz : size ≤ 1024) (hK1 : 1 ≤ K) (hKc : K ≤ c0.1.length) :
    Spec Try.prog 192 [vptr bq 0, vint (b : Int), vint (K : Int)] [qcells bq n os (.func (.func fk) #[] vs.toArray) s1 s2 bm (tr0 : Int) 2, hsl tRow (vsv s1) c0.1, hsl (tPair tInt (tS tInt)) (vsv s2) c0.2, hset bm (List.map keyS c0.1), J]
      (QRes bq n os (.func (.func fk) #[] vs.toArray) bm J (rndQ G n size os K b (c0, tr0, 2))) := by
  obtain ⟨R, hR⟩ : ∃ R, rndQ G n size os K b (c0, tr0, 2) = R := ⟨_, rfl⟩
  rw [hR]
  obtain ⟨h1, h8, h4, hops⟩ := algB_at ha
  refine Spec.of_run2 (n := 106) Try.func192 rfl Try.results192 Try.ntmps192 rfl ?_
  repeat' (first | (with_reducible refine RL.done ?_) | (with_reducible refine RL.wanted ?_ ?_; exact rfl) | ((with_reducible show RH _ _ _ _ _ _ _ _); refine RH.val (hK := ?_)) | (with_reducible first | refine Run.seq ?_ | refine Run.region ?_ | refine Run.block ?_) | (with_reducible refine seqN (K := Run _ _ _ _) ?_))
  refine Run.loop (α := Nat × Sv × Sv × CS × Nat) (fun x => [(0, vptr bq 0), (1, vint (b : Int)), (2, vint (K : Int)), (19, vsl 2 (fun y : Int × (List Int) => [vint y.1, vsl 1 (fun x : Int => [vint x]) y.2]) os), (20, vint (os.length : Int)), (21, vint (x.1 : Int))])
    (fun x => [qcells bq n os (.func (.func fk) #[] vs.toArray) x.2.1 x.2.2.1 bm (x.2.2.2.2 : Int) 2, hsl tRow (vsv x.2.1) x.2.2.2.1.1, hsl (tPair tInt (tS tInt)) (vsv x.2.2.1) x.2.2.2.1.2, hset bm (List.map keyS x.2.2.2.1.1), J])
    (fun x => x.1 ≤ os.length ∧ (os.zipIdx.drop x.1).foldl (opQ G n size K b) (x.2.2.2.1, x.2.2.2.2, 2) = R ∧ QInv n size (x.2.2.2.1, x.2.2.2.2, 2) ∧ K ≤ x.2.2.2.1.1.length) (fun x => os.length - x.1) (0, s1, s2, c0, tr0) ⟨Nat.zero_le _, hR, hs0, hKc⟩ (Ent.of slA chA) ?_
  rintro ⟨j, w1, w2, c1, tr1⟩ ⟨hj, hrj, hi1, hK1c⟩
  dsimp only at hj hrj hi1 hK1c ⊢
  rcases Nat.lt_or_eq_of_le hj with hj9 | hj9
  · have hoj := hops _ (List.getElem_mem hj9)
    have hob := hoj
    simp only [opB, Bool.and_eq_true, decide_eq_true_eq] at hob
    have hdrop : os.zipIdx.drop j = (os[j], j) :: os.zipIdx.drop (j + 1) := by
      rw [List.drop_eq_getElem_cons (by simpa using hj9)]; simp
    rw [hdrop, List.foldl_cons] at hrj
    have hfew1 : c1.1.length ≤ 150 := hi1.few
    have hkf : ((os[j].1.toNat : Nat) : Int) = os[j].1 := by omega
    have hpow := power_c (K : Int) os[j].1.toNat (by omega) (by omega) (by omega)
    obtain ⟨hp0, hpb⟩ := pw_bound (K : Int) (by omega) (by omega) os[j].1.toNat (by omega)
    have hM : ((many K os[j] : Nat) : Int) = pw (K : Int) os[j].1.toNat := by rw [many]; omega
    rw [hkf, ← hM] at hpow
    repeat' (first | (with_reducible refine RL.done ?_) | (with_reducible refine RL.wanted ?_ ?_; exact rfl) | ((with_reducible show RH _ _ _ ⟨some 28, .makeSlice _ _ _, _, _, _, _⟩ _ _ _ _); refine RH.makeZ (α := List Int) rfl (fun t : List Int => [vsl 1 (fun x : Int => [vint x]) t]) [] row_nil rfl rfl (by omega) (by omega) ?_; rintro _ _ ⟨b28, rfl, rfl⟩) | ((with_reducible show RH _ _ _ ⟨some 8, .alloc _, _, _, _, _⟩ _ _ _ _); refine RH.alloc rfl ?_; rintro _ _ ⟨b8, rfl, rfl⟩) | ((with_reducible show RH _ _ _ _ _ _ _ _); first | refine RH.val (hK := ?_) | refine RH.upd (hK := ?_)) | (with_reducible first | refine Run.seq ?_ | refine Run.region ?_ | refine Run.block ?_ | refine Run.skip ?_ | refine Run.exit ?_ | refine Run.ret ?_) | (with_reducible show Run _ _ (.cond _ _ _) _ _ _; refine Run.condD rfl (fun h => ?_) (fun h => ?_)) | (with_reducible first | refine seqN (K := Run _ _ _ _) ?_ | refine seqE ?_ | refine blockE ?_))
    all_goals first
      | (exfalso; omega)
      | skip
    refine Run.loop (α := Nat × Sv × Sv × CS × Nat × List (List Int)) (fun x => [(0, vptr bq 0), (1, vint (b : Int)), (2, vint (K : Int)), (19, vsl 2 (fun y : Int × (List Int) => [vint y.1, vsl 1 (fun x : Int => [vint x]) y.2]) os), (20, vint (os.length : Int)), (21, vint (j : Int)), (7, vint (j : Int)), (8, vptr b8 0), (9, vsb b28 os[j].1.toNat os[j].1.toNat), (10, vint (x.1 : Int))])
      (fun x => [harr b28 1 (fun t : List Int => [vsl 1 (fun x : Int => [vint x]) t]) x.2.2.2.2.2 (os[j].1.toNat * 1), hcells b8 [vint os[j].1, vsl 1 (fun x : Int => [vint x]) os[j].2], qcells bq n os (.func (.func fk) #[] vs.toArray) x.2.1 x.2.2.1 bm (x.2.2.2.2.1 : Int) 2, hsl tRow (vsv x.2.1) x.2.2.2.1.1, hsl (tPair tInt (tS tInt)) (vsv x.2.2.1) x.2.2.2.1.2, hset bm (List.map keyS x.2.2.2.1.1), J])
      (fun x => x.1 ≤ many K os[j] ∧ (os.zipIdx.drop (j + 1)).foldl (opQ G n size K b) ((List.range' x.1 (many K os[j] - x.1)).foldl (stepQ G n size os[j] j K b) (x.2.2.2.1, x.2.2.2.2.1, 2)) = R ∧ QInv n size (x.2.2.2.1, x.2.2.2.2.1, 2) ∧ K ≤ x.2.2.2.1.1.length ∧ x.2.2.2.2.2.length = os[j].1.toNat) (fun x => many K os[j] - x.1) (0, w1, w2, c1, tr1, List.replicate os[j].1.toNat []) ⟨Nat.zero_le _, hrj, hi1, hK1c, by simp⟩ (Ent.of slA chA) ?_
    rintro ⟨i, v1, v2, c2, tr2, A⟩ ⟨hi, hri, hi2, hK2, hA⟩
    dsimp only at hi hri hi2 hK2 hA ⊢
    have hfew2 : c2.1.length ≤ 150 := hi2.few
    have htr2 : tr2 ≤ 100000 := hi2.tr
    rcases Nat.lt_or_eq_of_le hi with hi9 | hi9
    · have hrg : List.range' i (many K os[j] - i) = i :: List.range' (i + 1) (many K os[j] - (i + 1)) := by
        rw [show many K os[j] - i = (many K os[j] - (i + 1)) + 1 by omega, List.range'_succ]
      rw [hrg, List.foldl_cons] at hri
      have hargs := argsAt_c (i : Int) (K : Int) os[j].1.toNat (by omega) (by omega) (by omega) (by omega)
      rw [hkf] at hargs
      obtain ⟨L, hL⟩ : ∃ L, lowd (i : Int) (K : Int) os[j].1.toNat = L := ⟨_, rfl⟩
      have hll : L.length = os[j].1.toNat := by rw [← hL]; exact lowd_length _ _ _
      have hnum : ∀ x ∈ L, 0 ≤ x ∧ x.toNat < c2.1.length := fun x hx => by
        rw [← hL] at hx
        have := low_in (k := os[j].1.toNat) (i := i) hK1 x hx
        omega
      have hfre : fresh K os[j].1.toNat b i = (L.any (fun x => decide ((b : Int) ≤ x)) || b == 0) := by rw [fresh, hL]
      rw [hL] at hargs
      repeat' (first | (with_reducible first | refine RL.done ?_ | refine RL.app0 ?_) | (with_reducible refine RL.wanted ?_ ?_; exact rfl) | ((with_reducible show RH _ _ _ ⟨_, .call ⟨.value (.func 91), _, _⟩, _, _, _, _⟩ _ _ _ _); refine RH.cP Try.call91 ?_; refine ⟨_, hpow, ?_⟩; rintro _ _ ⟨rfl, rfl⟩) | ((with_reducible show RH _ _ _ ⟨_, .call ⟨.value (.func 92), _, _⟩, _, _, _, _⟩ _ _ _ _); refine RH.cP Try.call92 ?_; refine ⟨_, hargs, ?_⟩; rintro _ _ ⟨s41, rfl, rfl⟩; refine RL.app1 ?_; refine RL.frzI ?_) | ((with_reducible show RH _ _ _ _ _ _ _ _); refine RH.val (hK := ?_)) | (with_reducible first | refine Run.seq ?_ | refine Run.region ?_ | refine Run.block ?_ | refine Run.skip ?_ | refine Run.exit ?_) | (with_reducible show Run _ _ (.cond _ _ _) _ _ _; refine Run.condD rfl (fun h => ?_) (fun h => ?_)) | (with_reducible first | refine seqN (K := Run _ _ _ _) ?_ | refine seqE ?_ | refine blockN ?_ | refine blockE ?_))
      all_goals first
        | (exfalso; omega)
        | skip
      refine Run.loop (α := Nat) (fun q => [(0, vptr bq 0), (1, vint (b : Int)), (2, vint (K : Int)), (19, vsl 2 (fun y : Int × (List Int) => [vint y.1, vsl 1 (fun x : Int => [vint x]) y.2]) os), (20, vint (os.length : Int)), (21, vint (j : Int)), (7, vint (j : Int)), (8, vptr b8 0), (9, vsb b28 os[j].1.toNat os[j].1.toNat), (10, vint (i : Int)), (11, vsl 1 (fun x : Int => [vint x]) L), (12, vbool ((L.take q).any (fun x => decide ((b : Int) ≤ x)) || b == 0)), (44, vsl 1 (fun x : Int => [vint x]) L), (45, vint (L.length : Int)), (46, vint (q : Int))])
        (fun q => [harr b28 1 (fun t : List Int => [vsl 1 (fun x : Int => [vint x]) t]) ((chosen c2.1 L).take q ++ A.drop q) (os[j].1.toNat * 1), hcells b8 [vint os[j].1, vsl 1 (fun x : Int => [vint x]) os[j].2], qcells bq n os (.func (.func fk) #[] vs.toArray) v1 v2 bm (tr2 : Int) 2, hsl tRow (vsv v1) c2.1, hsl (tPair tInt (tS tInt)) (vsv v2) c2.2, hset bm (List.map keyS c2.1), J])
        (fun q => q ≤ L.length) (fun q => L.length - q) 0 (Nat.zero_le _) (Ent.of (by (repeat (first | exact Sl.nil | refine Sl.cons rfl rfl ?_ | refine Sl.cons rfl (congrArg (fun z => vlit (Value.int .i64 z)) (by omega)) ?_ | refine Sl.cons rfl (congrArg vbool (Bool.eq_iff_iff.2 (by simp))) ?_))) (.cons .head (by simp) chA)) ?_
      intro q hq
      have hcl2 : (chosen c2.1 L).length = os[j].1.toNat := by simp [chosen, hll]
      have hAl : ((chosen c2.1 L).take q ++ A.drop q).length = os[j].1.toNat := by simp [hcl2]; omega
      rcases Nat.lt_or_eq_of_le hq with hq9 | hq9
      · have hxq := hnum _ (List.getElem_mem hq9)
        have hput := chosen_put (xs := c2.1) (A := A) hq9 (by omega) hxq.2
        have hany : (L.take (q + 1)).any (fun x => decide ((b : Int) ≤ x)) = ((L.take q).any (fun x => decide ((b : Int) ≤ x)) || decide ((b : Int) ≤ L[q])) := by
          rw [List.take_add_one, List.getElem?_eq_getElem hq9, List.any_append]; simp
        cases hv : ((L.take q).any (fun x => decide ((b : Int) ≤ x)) || b == 0) with
        | true =>
          have hv2 : ((L.take (q + 1)).any (fun x => decide ((b : Int) ≤ x)) || b == 0) = true := by rw [hany, Bool.or_right_comm, hv]; rfl
          repeat' (first | (with_reducible refine RL.done ?_) | (with_reducible refine RL.wanted ?_ ?_; exact rfl) | ((with_reducible show RH _ _ _ _ _ _ _ _); first | refine RH.val (hK := ?_) | refine RH.upd (hK := ?_)) | (with_reducible show RL _ _ _ (_ :: _) _ _ _; refine RL.guardNoS rfl rfl rfl rfl rfl rfl ?_) | (with_reducible first | refine Run.seq ?_ | refine Run.region ?_ | refine Run.block ?_ | refine Run.skip ?_ | refine Run.exit ?_ | refine Run.ret ?_) | (with_reducible show Run _ _ (.cond _ _ _) _ _ _; first | refine Run.condF rfl ?_ | refine Run.condD rfl (fun h => ?_) (fun h => ?_)) | (with_reducible first | refine seqN (K := Run _ _ _ _) ?_ | refine seqE ?_ | refine seqR ?_ | refine blockN ?_ | refine blockR ?_ | refine blockE ?_))
          all_goals first
            | (exfalso; omega)
            | (with_reducible refine seqN ?_
               exact ⟨q + 1, by omega, by omega, Ent.of (by rw [hv2]; exact slA) (.cons .head (congrArg (fun ys => harr b28 1 (fun t : List Int => [vsl 1 (fun x : Int => [vint x]) t]) ys (os[j].1.toNat * 1)) hput) chA)⟩)
            | trace_state
        | false =>
          have hv2 : ((L.take (q + 1)).any (fun x => decide ((b : Int) ≤ x)) || b == 0) = decide ((b : Int) ≤ L[q]) := by rw [hany, Bool.or_right_comm, hv]; rfl
          repeat' (first | (with_reducible refine RL.done ?_) | (with_reducible refine RL.wanted ?_ ?_; exact rfl) | ((with_reducible show RH _ _ _ _ _ _ _ _); first | refine RH.val (hK := ?_) | refine RH.upd (hK := ?_)) | (with_reducible show RL _ _ _ (_ :: _) _ _ _; refine RL.guardYes rfl rfl rfl rfl ?_) | (with_reducible first | refine Run.seq ?_ | refine Run.region ?_ | refine Run.block ?_ | refine Run.skip ?_ | refine Run.exit ?_) | (with_reducible show Run _ _ (.cond _ _ _) _ _ _; first | refine Run.condT rfl ?_ | refine Run.condD rfl (fun h => ?_) (fun h => ?_)) | (with_reducible first | refine seqN (K := Run _ _ _ _) ?_ | refine seqE ?_ | refine blockN ?_ | refine blockE ?_))
          all_goals first
            | (exfalso; omega)
            | (with_reducible refine seqN ?_
               exact ⟨q + 1, by omega, by omega, Ent.of (by rw [hv2]; (repeat (first | exact Sl.nil | refine Sl.cons rfl rfl ?_ | refine Sl.cons rfl (congrArg (fun z => vlit (Value.int .i64 z)) (by omega)) ?_))) (.cons .head (congrArg (fun ys => harr b28 1 (fun t : List Int => [vsl 1 (fun x : Int => [vint x]) t]) ys (os[j].1.toNat * 1)) hput) chA)⟩)
            | trace_state
      · have hAe : (chosen c2.1 L).take q ++ A.drop q = chosen c2.1 L := by rw [hq9, List.drop_of_length_le (by omega), List.append_nil, List.take_of_length_le (by omega)]
        have hte : ((L.take q).any (fun x => decide ((b : Int) ≤ x)) || b == 0) = fresh K os[j].1.toNat b i := by rw [hfre, hq9, List.take_length]
        rw [hAe] at hAl ⊢
        rw [hte]
        cases hfr : fresh K os[j].1.toNat b i with
        | false =>
          rw [stepQ_skip hfr] at hri
          repeat' (first | (with_reducible refine RL.done ?_) | (with_reducible refine RL.wanted ?_ ?_; exact rfl) | ((with_reducible show RH _ _ _ _ _ _ _ _); first | refine RH.val (hK := ?_) | refine RH.upd (hK := ?_)) | (with_reducible show RL _ _ _ (_ :: _) _ _ _; refine RL.guardYes rfl rfl rfl rfl ?_) | (with_reducible first | refine Run.seq ?_ | refine Run.region ?_ | refine Run.block ?_ | refine Run.skip ?_ | refine Run.exit ?_) | (with_reducible show Run _ _ (.cond _ _ _) _ _ _; first | refine Run.condT rfl ?_ | refine Run.condD rfl (fun h => ?_) (fun h => ?_)) | (with_reducible first | refine seqN (K := Run _ _ _ _) ?_ | refine seqE ?_ | refine blockN ?_ | refine blockE ?_))
          all_goals first
            | (exfalso; omega)
            | (with_reducible refine seqN ?_
               exact ⟨(i + 1, v1, v2, c2, tr2, chosen c2.1 L), ⟨by dsimp only; omega, hri, hi2, hK2, hcl2⟩, by dsimp only; omega, Ent.of (by dsimp only; exact slA) (by dsimp only; exact chA)⟩)
            | trace_state
        | true =>
          by_cases ht : tr2 = 100000
          · rw [stepQ_many rfl hfr ht, foldQ_end (fun _ _ h => stepQ_end h) _ _ (by dsimp only; decide), foldQ_end (fun _ _ h => opQ_end h) _ _ (by dsimp only; decide)] at hri
            subst hri
            repeat' (first | (with_reducible refine RL.done ?_) | (with_reducible refine RL.wanted ?_ ?_; exact rfl) | ((with_reducible show RH _ _ _ _ _ _ _ _); first | refine RH.val (hK := ?_) | refine RH.upd (hK := ?_)) | (with_reducible show RL _ _ _ (_ :: _) _ _ _; refine RL.guardNoS rfl rfl rfl rfl rfl rfl ?_) | (with_reducible first | refine Run.seq ?_ | refine Run.region ?_ | refine Run.block ?_ | refine Run.skip ?_ | refine Run.exit ?_ | refine Run.ret ?_) | (with_reducible show Run _ _ (.cond _ _ _) _ _ _; first | refine Run.condF rfl ?_ | refine Run.condD rfl (fun h => ?_) (fun h => ?_)) | (with_reducible first | refine seqN (K := Run _ _ _ _) ?_ | refine seqE ?_ | refine seqR ?_ | refine blockN ?_ | refine blockR ?_ | refine blockE ?_))
            all_goals first
              | (exfalso; omega)
              | (refine ⟨eA, _, [qcells bq n os (.func (.func fk) #[] vs.toArray) v1 v2 bm (tr2 : Int) 3, hsl tRow (vsv v1) c2.1, hsl (tPair tInt (tS tInt)) (vsv v2) c2.2, hset bm (List.map keyS c2.1), J], resA, ?_, ?_⟩
                 · exact SEnt.ch chA
                 · exact ⟨v1, v2, rfl, rfl⟩)
              | trace_state
          · have hc0 : 0 < c2.1.length := by omega
            have hrow0 : (c2.1[0]'hc0).length = size := (hi2.inv.row _ (List.getElem_mem hc0)).1
            have hap := opAp' hi2.inv h1 h8 (by omega) hoj hll hnum
            have htel := applyT_el hap (opB_tab hoj)
            have hcomp : Spec Try.prog 197 [vint n, vagg [vint os[j].1, vsl 1 (fun x : Int => [vint x]) os[j].2], vsl 1 (fun t : List Int => [vsl 1 (fun x : Int => [vint x]) t]) (chosen c2.1 L), vint ((c2.1[0]'hc0).length : Int)] [] (fun r S' => ∃ s : Sv, r = vlit (vsv s) ∧ S' = [hsl tInt (vsv s) (applyT n os[j].2 (chosen c2.1 L) size)]) := by
              rw [hrow0]; exact composeTables_c n os[j].1 os[j].2 _ size hap
            have hQ : QInv n size (c2, tr2 + 1, 2) := ⟨hi2.inv, hi2.few, by show tr2 + 1 ≤ 100000; omega, .inr (.inl rfl)⟩
            have hadd := fun (w1 w2 : Sv) => qadd_c bq bm w1 w2 n os size fk vs J G hE hgood c2 (tr2 + 1) (applyT n os[j].2 (chosen c2.1 L) size) (j : Int) L hQ h8 hsz (applyT_length _ _ _ _) htel (by omega)
            have hi3 := hQ.add (G := G) (sp := ((j : Int), L)) (applyT_length n os[j].2 (chosen c2.1 L) size) htel
            have hmore := addQ_more G (c2, tr2 + 1, 2) (applyT n os[j].2 (chosen c2.1 L) size) ((j : Int), L)
            rw [stepQ_add rfl hfr ht, hL] at hri
            obtain ⟨S3, hS3⟩ : ∃ S, addQ G (c2, tr2 + 1, 2) (applyT n os[j].2 (chosen c2.1 L) size) ((j : Int), L) = S := ⟨_, rfl⟩
            simp only [hS3] at hadd hi3 hmore
            have hri : List.foldl (opQ G n size K b) (List.foldl (stepQ G n size os[j] j K b) S3 (List.range' (i + 1) (many K os[j] - (i + 1)))) (os.zipIdx.drop (j + 1)) = R := by rw [← hS3]; exact hri
            obtain ⟨c3, tr3, st3⟩ := S3
            rw [show ((tr2 + 1 : Nat) : Int) = (tr2 : Int) + 1 by omega] at hadd
            dsimp only at hmore
            have hadd := hadd v1 v2
            repeat' (first | (with_reducible refine RL.done ?_) | (with_reducible refine RL.wanted ?_ ?_; exact rfl) | ((with_reducible show Run _ _ (.region 21 _ true) _ _ _); refine Run.regionD (fun i => i == 18) rfl ?_; change RD _ _ _ _ _ _ 20 (dm 20 0) _ _) | ((with_reducible show RD _ _ 21 _ _ _ _ _ _ _); first | ((with_reducible show RD _ _ _ _ _ _ _ (dm 20 0) _ _); refine RD.tk 0 (dm 20 786432) (dm 20 1) (hK := ?_)) | ((with_reducible show RD _ _ _ _ _ _ _ (dm 20 1) _ _); refine RD.tk 1 (dm 20 819260) (dm 20 3) (hK := ?_)) | ((with_reducible show RD _ _ _ _ _ _ _ (dm 20 3) _ _); refine RD.tk 2 (dm 20 819256) (dm 20 7) (hK := ?_)) | ((with_reducible show RD _ _ _ _ _ _ _ (dm 20 7) _ _); refine RD.tk 3 (dm 20 819248) (dm 20 15) (hK := ?_)) | ((with_reducible show RD _ _ _ _ _ _ _ (dm 20 15) _ _); refine RD.tk 4 (dm 20 819232) (dm 20 31) (hK := ?_)) | ((with_reducible show RD _ _ _ _ _ _ _ (dm 20 31) _ _); refine RD.tk 5 (dm 20 819200) (dm 20 63) (hK := ?_)) | ((with_reducible show RD _ _ _ _ _ _ _ (dm 20 63) _ _); refine RD.tk 6 (dm 20 819200) (dm 20 127) (hK := ?_)) | ((with_reducible show RD _ _ _ _ _ _ _ (dm 20 127) _ _); refine RD.tk 7 (dm 20 819200) (dm 20 255) (hK := ?_)) | ((with_reducible show RD _ _ _ _ _ _ _ (dm 20 255) _ _); refine RD.tk 8 (dm 20 851456) (dm 20 511) (hK := ?_)) | ((with_reducible show RD _ _ _ _ _ _ _ (dm 20 511) _ _); refine RD.tk 9 (dm 20 850944) (dm 20 1023) (hK := ?_)) | ((with_reducible show RD _ _ _ _ _ _ _ (dm 20 1023) _ _); refine RD.tk 10 (dm 20 849920) (dm 20 2047) (hK := ?_)) | ((with_reducible show RD _ _ _ _ _ _ _ (dm 20 2047) _ _); refine RD.tk 11 (dm 20 847872) (dm 20 4095) (hK := ?_)) | ((with_reducible show RD _ _ _ _ _ _ _ (dm 20 4095) _ _); refine RD.tk 12 (dm 20 843776) (dm 20 8191) (hK := ?_)) | ((with_reducible show RD _ _ _ _ _ _ _ (dm 20 8191) _ _); refine RD.tk 13 (dm 20 835584) (dm 20 16383) (hK := ?_)) | ((with_reducible show RD _ _ _ _ _ _ _ (dm 20 16383) _ _); refine RD.tk 14 (dm 20 819200) (dm 20 32767) (hK := ?_)) | ((with_reducible show RD _ _ _ _ _ _ _ (dm 20 32767) _ _); refine RD.tk 16 (dm 20 786432) (dm 20 98303) (hK := ?_)) | ((with_reducible show RD _ _ _ _ _ _ _ (dm 20 98303) _ _); refine RD.tk 17 (dm 20 786432) (dm 20 229375) (hK := ?_)) | ((with_reducible show RD _ _ _ _ _ _ _ (dm 20 229375) _ _); refine RD.a1 15 ?_) | ((with_reducible show RD _ _ _ _ _ _ _ (dm 20 262143) _ _); refine RD.a1 18 ?_) | ((with_reducible show RD _ _ _ _ _ _ _ (dm 20 524287) _ _); refine RD.tk 19 (dm 20 0) (dm 20 1048575) (hK := ?_)) | ((with_reducible show RD _ _ _ _ _ _ 0 _ _ _); refine RD.done (by kernel_rfl) ?_)) | ((with_reducible show RO _ _ 21 _ _ _ _ _ _ _ _); first | ((with_reducible show RO _ _ _ _ _ _ _ (dm 20 229375) 15 _ _); (refine RO.cL (dm 20 262143) Try.call197 ?_; apply Exists.intro; apply And.intro; (focus ((repeat (first | exact LVs.nil | (apply LVs.arr; (with_reducible repeat (exact Has.head)); (omega); exact rfl) | apply LVs.agg | apply LVs.refl)); done)); refine ⟨_, hcomp, (by intro r H h; first | (obtain ⟨rfl, rfl⟩ := h; exact ⟨inferInstance, inferInstance⟩) | (obtain ⟨_, rfl, rfl⟩ := h; exact ⟨inferInstance, inferInstance⟩) | (obtain ⟨_, _, rfl, rfl⟩ := h; exact ⟨inferInstance, inferInstance⟩) | (obtain ⟨_, _, rfl, rfl, _⟩ := h; exact ⟨inferInstance, inferInstance⟩)), ?_⟩; rintro _ _ ⟨s100, rfl, rfl⟩; refine RD.app1 ?_; refine RD.frzI ?_)) | ((with_reducible show RO _ _ _ _ _ _ _ (dm 20 262143) 18 _ _); (refine RO.h (dm 20 524287) ?_; show RH _ _ _ ⟨_, _, _, _, _, _⟩ _ _ _ _))) | ((with_reducible show RH _ _ _ ⟨_, .call ⟨.value (.func 191), _, _⟩, _, _, _, _⟩ _ _ _ _); refine RH.cW Try.call191 ?_; refine ⟨_, _, _, (by repeat (first | exact Pick.nil | (apply Pick.cons; (with_reducible repeat (first | exact Rem.head | apply Rem.tail))))), hadd, ?_⟩; rintro _ _ ⟨u1, u2, rfl, rfl⟩; refine RL.nm ?_) | ((with_reducible show RH _ _ _ _ _ _ _ _); first | refine RH.val (hK := ?_) | refine RH.upd (hK := ?_)) | (with_reducible show RL _ _ _ (_ :: _) _ _ _; refine RL.guardNoS rfl rfl rfl rfl rfl rfl ?_) | (with_reducible first | refine Run.seq ?_ | refine Run.region ?_ | refine Run.block ?_ | refine Run.skip ?_ | refine Run.exit ?_ | refine Run.ret ?_) | (with_reducible show Run _ _ (.cond _ _ _) _ _ _; first | refine Run.condF rfl ?_ | refine Run.condD rfl (fun h => ?_) (fun h => ?_) | refine Run.condND rfl (fun h => ?_) (fun h => ?_)) | (with_reducible first | refine seqN (K := Run _ _ _ _) ?_ | refine seqE ?_ | refine seqR ?_ | refine blockN ?_ | refine blockR ?_ | refine blockE ?_))
            all_goals first
              | (exfalso; omega)
              | (obtain rfl : st3 = 2 := by assumption
                 with_reducible refine seqN ?_
                 exact ⟨(i + 1, u1, u2, c3, tr3, chosen c2.1 L), ⟨by dsimp only; omega, hri, hi3, by dsimp only; omega, hcl2⟩, by dsimp only; omega, Ent.of (by dsimp only; exact slA) (by dsimp only; exact chA)⟩)
              | (have hn2 : ¬ st3 = 2 := by assumption
                 rw [foldQ_end (fun _ _ h => stepQ_end h) _ _ (by exact hn2), foldQ_end (fun _ _ h => opQ_end h) _ _ (by exact hn2)] at hri
                 subst hri
                 refine ⟨eA, _, [qcells bq n os (.func (.func fk) #[] vs.toArray) u1 u2 bm (tr3 : Int) st3, hsl tRow (vsv u1) c3.1, hsl (tPair tInt (tS tInt)) (vsv u2) c3.2, hset bm (List.map keyS c3.1), J], resA, ?_, ?_⟩
                 · exact SEnt.ch chA
                 · exact ⟨u1, u2, by show _ = vbool (decide (st3 = 2)); rw [decide_eq_false hn2]; rfl, rfl⟩)
              | trace_state
    · rw [hi9, Nat.sub_self] at hri
      repeat' (first | (with_reducible first | refine RL.done ?_ | refine RL.app0 ?_) | (with_reducible refine RL.wanted ?_ ?_; exact rfl) | ((with_reducible show RH _ _ _ ⟨_, .call ⟨.value (.func 91), _, _⟩, _, _, _, _⟩ _ _ _ _); refine RH.cP Try.call91 ?_; refine ⟨_, hpow, ?_⟩; rintro _ _ ⟨rfl, rfl⟩) | ((with_reducible show RH _ _ _ _ _ _ _ _); refine RH.val (hK := ?_)) | (with_reducible first | refine Run.seq ?_ | refine Run.region ?_ | refine Run.block ?_ | refine Run.skip ?_ | refine Run.exit ?_) | (with_reducible show Run _ _ (.cond _ _ _) _ _ _; refine Run.condD rfl (fun h => ?_) (fun h => ?_)) | (with_reducible first | refine seqN (K := Run _ _ _ _) ?_ | refine seqE ?_ | refine blockN ?_ | refine blockE ?_))
      all_goals first
        | (exfalso; omega)
        | (with_reducible refine seqN ?_
           exact ⟨(j + 1, v1, v2, c2, tr2), ⟨by dsimp only; omega, hri, hi2, hK2⟩, by dsimp only; omega, Ent.of (by dsimp only; exact slA) (by dsimp only; exact chA)⟩)
        | trace_state
  · rw [List.drop_of_length_le (by simp; omega)] at hrj
    subst hrj
    repeat' (first | (with_reducible refine RL.done ?_) | (with_reducible refine RL.wanted ?_ ?_; exact rfl) | ((with_reducible show RH _ _ _ ⟨some 8, .alloc _, _, _, _, _⟩ _ _ _ _); refine RH.alloc rfl ?_; rintro _ _ ⟨b8, rfl, rfl⟩) | ((with_reducible show RH _ _ _ _ _ _ _ _); first | refine RH.val (hK := ?_) | refine RH.upd (hK := ?_)) | (with_reducible first | refine Run.seq ?_ | refine Run.region ?_ | refine Run.block ?_ | refine Run.skip ?_ | refine Run.exit ?_ | refine Run.ret ?_) | (with_reducible show Run _ _ (.cond _ _ _) _ _ _; refine Run.condD rfl (fun h => ?_) (fun h => ?_)) | (with_reducible first | refine seqN (K := Run _ _ _ _) ?_ | refine seqE ?_ | refine blockE ?_))
    all_goals first
      | (exfalso; omega)
      | (refine ⟨eA, _, [qcells bq n os (.func (.func fk) #[] vs.toArray) w1 w2 bm (tr1 : Int) 2, hsl tRow (vsv w1) c1.1, hsl (tPair tInt (tS tInt)) (vsv w2) c1.2, hset bm (List.map keyS c1.1), J], resA, ?_, ?_⟩
         · exact SEnt.ch chA
         · exact ⟨w1, w2, rfl, rfl⟩)
      | trace_state
end Go.Proofs.Ytiifdhdhjioefaa
