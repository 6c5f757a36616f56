/- A partial map is closed: impl.noneOpen, imageIndex, closeMap. Proved for this program; conditions: valid algebras of one type, a partial map. -/
import Derived.Test.YtejeeokjjbiadaaHomP
import Derived.Test.YtejeeokjjbiadaaOwn
namespace Go.Proofs.Ytejeeokjjbiadaa
open Go Go.Proofs
set_option linter.unusedVariables false

theorem getD_ho (f : List Int) (j : Nat) (h : j < f.length) : f.getD j 0 = f[j] := by
  rw [List.getD_eq_getElem?_getD, List.getElem?_eq_getElem h]; rfl
theorem imL_low (f : List Int) (i n : Int) (m : Nat) (h : (dv i n m % n).toNat < f.length) : imL f (lowd i n (m + 1)) = f[(dv i n m % n).toNat] :: imL f (lowd i n m) := by
  rw [lowd, imL, List.map_cons, getD_ho _ _ h]; rfl
theorem openB_cons (x : Int) (l : List Int) : openB (x :: l) = (decide (x < 0) || openB l) := rfl
theorem openB_up (f : List Int) (i n : Int) (m : Nat) : ∀ k, m ≤ k → openB (imL f (lowd i n m)) = true → openB (imL f (lowd i n k)) = true
  | 0, h, h1 => by obtain rfl : m = 0 := by omega
                   exact h1
  | k + 1, h, h1 => by
    rcases Nat.lt_or_eq_of_le h with h2 | rfl
    · rw [lowd, imL, List.map_cons, openB_cons]
      exact (congrArg _ (openB_up f i n m k (by omega) h1)).trans (Bool.or_true _)
    · exact h1
/-- a digit's place -/
theorem dig {n : Int} {f : List Int} (hn : 1 ≤ n) (hl : (f.length : Int) = n) (i : Nat) (m : Nat) : 0 ≤ dv (i : Int) n m ∧ dv (i : Int) n m ≤ i ∧ 0 ≤ dv (i : Int) n m % n ∧ (dv (i : Int) n m % n).toNat < f.length := by
  have h1 := dv_bound (i : Int) n (by omega) hn m
  have h2 := Int.emod_nonneg (dv (i : Int) n m) (show n ≠ 0 by omega)
  have h3 := Int.emod_lt_of_pos (dv (i : Int) n m) (show 0 < n by omega)
  exact ⟨h1.1, h1.2, h2, by omega⟩
set_option maxRecDepth 10000 in
set_option maxHeartbeats 1000000 in
theorem noneOpen_c (n : Int) (f : List Int) (i k : Nat) (hn : 1 ≤ n) (hl : (f.length : Int) = n) (hk : k ≤ 3) (hi : i ≤ 1048576) :
    Spec Try.prog 234 [vint (i : Int), vint (k : Int), vint n, vsl 1 (fun x : Int => [vint x]) f] [] (fun r S' => r = vbool (!openB (imL f (lowd (i : Int) n k))) ∧ S' = []) := by
  refine Spec.of_run2 (n := 23) Try.func234 rfl Try.results234 Try.ntmps234 rfl ?_
  repeat' (first | (with_reducible refine RL.done ?_) | (with_reducible refine RL.wanted ?_ ?_; exact rfl) | ((with_reducible show RH _ _ _ _ _ _ _ _); refine RH.val (hK := ?_)) | (with_reducible first | refine Run.seq ?_ | refine Run.region ?_ | refine Run.block ?_) | (with_reducible refine seqN (K := Run _ _ _ _) ?_))
  refine Run.loop (α := Nat) (fun m => [(0, vint (dv (i : Int) n m)), (1, vint ((k : Int) - (m : Int))), (2, vint n), (3, vsl 1 (fun x : Int => [vint x]) f)]) (fun m => []) (fun m => m ≤ k ∧ openB (imL f (lowd (i : Int) n m)) = false) (fun m => k - m) 0 (by simp [lowd, imL, openB]) (Ent.of (by (repeat (first | exact Sl.nil | refine Sl.cons rfl rfl ?_ | refine Sl.cons rfl (congrArg (fun z => vlit (Value.int .i64 z)) (by omega)) ?_ | refine Sl.cons rfl (by simp [dv]) ?_))) .nil) ?_
  rintro m ⟨hm, hno⟩
  obtain ⟨hd1, hd2, hd3, hd4⟩ := dig hn hl i m
  rcases Nat.lt_or_eq_of_le hm with h9 | rfl
  · have hlow := imL_low f (i : Int) n m hd4
    repeat' (first | (with_reducible refine RL.done ?_) | (with_reducible refine RL.wanted ?_ ?_; exact rfl) | ((with_reducible show RH _ _ _ _ _ _ _ _); refine RH.val (hK := ?_)) | (with_reducible first | refine Run.seq ?_ | refine Run.region ?_ | refine Run.block ?_ | refine Run.skip ?_ | refine Run.exit ?_ | refine Run.ret ?_) | (with_reducible show Run _ _ (.cond _ _ _) _ _ _; refine Run.condD rfl (fun h => ?_) (fun h => ?_)) | (with_reducible first | refine seqN (K := Run _ _ _ _) ?_ | refine seqE ?_ | refine seqR ?_ | refine blockN ?_ | refine blockR ?_ | refine blockE ?_))
    all_goals first
      | (exfalso; omega)
      | (have hyes : openB (imL f (lowd (i : Int) n k)) = true := openB_up f _ n (m + 1) k (by omega) (by rw [hlow, openB_cons, decide_eq_true (by assumption)]; rfl)
         refine ⟨eA, _, [], resA, .ch .nil, ?_⟩; exact ⟨by rw [hyes]; rfl, rfl⟩)
      | (with_reducible refine seqN ?_
         exact ⟨m + 1, ⟨by omega, by rw [hlow, openB_cons, hno, Bool.or_false]; exact decide_eq_false (by assumption)⟩, by omega, Ent.of (by (repeat (first | exact Sl.nil | refine Sl.cons rfl rfl ?_ | refine Sl.cons rfl (congrArg (fun z => vlit (Value.int .i64 z)) (by omega)) ?_ | refine Sl.cons rfl (congrArg (fun z => vlit (Value.int .i64 z)) (by first | rfl | omega)) ?_))) .nil⟩)
  · repeat' (first | (with_reducible refine RL.done ?_) | (with_reducible refine RL.wanted ?_ ?_; exact rfl) | ((with_reducible show RH _ _ _ _ _ _ _ _); refine RH.val (hK := ?_)) | (with_reducible first | refine Run.seq ?_ | refine Run.region ?_ | refine Run.block ?_ | refine Run.skip ?_ | refine Run.exit ?_ | refine Run.ret ?_) | (with_reducible show Run _ _ (.cond _ _ _) _ _ _; refine Run.condD rfl (fun h => ?_) (fun h => ?_)) | (with_reducible first | refine seqN (K := Run _ _ _ _) ?_ | refine seqE ?_ | refine seqR ?_ | refine blockN ?_ | refine blockR ?_ | refine blockE ?_))
    all_goals first
      | (exfalso; omega)
      | (refine ⟨eA, _, [], resA, .ch .nil, ?_⟩; exact ⟨by rw [hno]; rfl, rfl⟩)
set_option maxRecDepth 10000 in
set_option maxHeartbeats 1000000 in
theorem imageIndex_c (n n2 : Int) (os os2 : List (Int × List Int)) (f : List Int) (i k : Nat) (hn : 1 ≤ n) (h1 : 1 ≤ n2) (h8 : n2 ≤ 8) (hf : MapOk n n2 f) (hk : k ≤ 3) (hi : i ≤ 1048576) (ho : openB (imL f (lowd (i : Int) n k)) = false) :
    Spec Try.prog 235 [vint (i : Int), vint (k : Int), vagg [vint n, vsl 2 (fun y : Int × (List Int) => [vint y.1, vsl 1 (fun x : Int => [vint x]) y.2]) os], vagg [vint n2, vsl 2 (fun y : Int × (List Int) => [vint y.1, vsl 1 (fun x : Int => [vint x]) y.2]) os2], vsl 1 (fun x : Int => [vint x]) f] [] (fun r S' => r = vint (hor n2 (imL f (lowd (i : Int) n k))) ∧ S' = []) := by
  refine Spec.of_run2 (n := 39) Try.func235 rfl Try.results235 Try.ntmps235 rfl ?_
  repeat' (first | (with_reducible refine RL.done ?_) | (with_reducible refine RL.wanted ?_ ?_; exact rfl) | ((with_reducible show RH _ _ _ ⟨some 7, .box _ _, _, _, _, _⟩ _ _ _ _); (refine RH.boxAgg rfl rfl ?_; rintro _ _ ⟨b7, rfl, rfl⟩)) | ((with_reducible show RH _ _ _ ⟨some 8, .box _ _, _, _, _, _⟩ _ _ _ _); (refine RH.boxAgg rfl rfl ?_; rintro _ _ ⟨b8, rfl, rfl⟩)) | ((with_reducible show RH _ _ _ _ _ _ _ _); refine RH.val (hK := ?_)) | (with_reducible first | refine Run.seq ?_ | refine Run.region ?_ | refine Run.block ?_) | (with_reducible refine seqN (K := Run _ _ _ _) ?_))
  refine Run.loop (α := Nat) (fun m => [(0, vint (dv (i : Int) n m)), (1, vint (k : Int)), (4, vsl 1 (fun x : Int => [vint x]) f), (7, vptr b7 0), (8, vptr b8 0), (11, vint (hor n2 (imL f (lowd (i : Int) n m)))), (12, vint (pw n2 m)), (13, vint (m : Int))]) (fun m => [hcells b8 [vint n2, vsl 2 (fun y : Int × (List Int) => [vint y.1, vsl 1 (fun x : Int => [vint x]) y.2]) os2], hcells b7 [vint n, vsl 2 (fun y : Int × (List Int) => [vint y.1, vsl 1 (fun x : Int => [vint x]) y.2]) os]]) (fun m => m ≤ k) (fun m => k - m) 0 (by simp) (Ent.of (by (repeat (first | exact Sl.nil | refine Sl.cons rfl rfl ?_ | refine Sl.cons rfl (congrArg (fun z => vlit (Value.int .i64 z)) (by omega)) ?_ | refine Sl.cons rfl (by simp [dv, lowd, imL, hor, pw]) ?_))) chA) ?_
  intro m hm
  obtain ⟨hd1, hd2, hd3, hd4⟩ := dig hn hf.len i m
  rcases Nat.lt_or_eq_of_le hm with h9 | rfl
  · have hlow := imL_low f (i : Int) n m hd4
    have hx : 0 ≤ f[(dv (i : Int) n m % n).toNat] := by
      rcases Int.lt_or_le f[(dv (i : Int) n m % n).toNat] 0 with h | h
      · have := openB_up f (i : Int) n (m + 1) k (by omega) (by rw [hlow, openB_cons, decide_eq_true h]; rfl)
        rw [ho] at this; cases this
      · exact h
    have hx2 := (hf.at hd4).2
    have hlen : (imL f (lowd (i : Int) n m)).length = m := by rw [imL_length, lowd_length]
    have hno : openB (imL f (lowd (i : Int) n m)) = false := by
      cases e : openB (imL f (lowd (i : Int) n m)) with
      | false => rfl
      | true => rw [openB_up f (i : Int) n m k (by omega) e] at ho; cases ho
    have hb := hor_bound n2 (by omega) _ (openB_el (imL_rng hf (digits hn i m)) hno) (imL f (lowd (i : Int) n m)).length (Nat.le_refl _)
    rw [List.take_length, hlen] at hb
    have hp := pw_512' n2 h1 h8 m (by omega)
    have hp1 := pw_pos' n2 h1 m
    have hq : 0 ≤ f[(dv (i : Int) n m % n).toNat] * pw n2 m := Int.mul_nonneg hx (by omega)
    have hq2 : f[(dv (i : Int) n m % n).toNat] * pw n2 m ≤ 8 * 512 := Int.mul_le_mul (by omega) hp (by omega) (by decide)
    have hr : 0 ≤ pw n2 m * n2 := Int.mul_nonneg (by omega) (by omega)
    have hr2 : pw n2 m * n2 ≤ 512 * 8 := Int.mul_le_mul hp h8 (by omega) (by decide)
    have hs : hor n2 (imL f (lowd (i : Int) n (m + 1))) = hor n2 (imL f (lowd (i : Int) n m)) + f[(dv (i : Int) n m % n).toNat] * pw n2 m := by
      rw [hlow, hor_cons, hlen, Int.add_comm]
    repeat' (first | (with_reducible refine RL.done ?_) | (with_reducible refine RL.wanted ?_ ?_; exact rfl) | ((with_reducible show RH _ _ _ _ _ _ _ _); refine RH.val (hK := ?_)) | (with_reducible first | refine Run.seq ?_ | refine Run.region ?_ | refine Run.block ?_ | refine Run.skip ?_ | refine Run.exit ?_ | refine Run.ret ?_) | (with_reducible show Run _ _ (.cond _ _ _) _ _ _; refine Run.condD rfl (fun h => ?_) (fun h => ?_)) | (with_reducible first | refine seqN (K := Run _ _ _ _) ?_ | refine seqE ?_ | refine blockN ?_ | refine blockE ?_))
    all_goals first
      | (exfalso; omega)
      | (with_reducible refine seqN ?_
         exact ⟨m + 1, by omega, by omega, Ent.of (by rw [hs]; (repeat (first | exact Sl.nil | refine Sl.cons rfl rfl ?_ | refine Sl.cons rfl (congrArg (fun z => vlit (Value.int .i64 z)) (by omega)) ?_ | refine Sl.cons rfl (congrArg (fun z => vlit (Value.int .i64 z)) (by first | rfl | omega)) ?_))) chA⟩)
  · repeat' (first | (with_reducible refine RL.done ?_) | (with_reducible refine RL.wanted ?_ ?_; exact rfl) | ((with_reducible show RH _ _ _ _ _ _ _ _); refine RH.val (hK := ?_)) | (with_reducible first | refine Run.seq ?_ | refine Run.region ?_ | refine Run.block ?_ | refine Run.skip ?_ | refine Run.exit ?_ | refine Run.ret ?_) | (with_reducible show Run _ _ (.cond _ _ _) _ _ _; refine Run.condD rfl (fun h => ?_) (fun h => ?_)) | (with_reducible first | refine seqN (K := Run _ _ _ _) ?_ | refine seqE ?_ | refine blockN ?_ | refine blockE ?_))
    all_goals first
      | (exfalso; omega)
      | (refine ⟨eA, _, [], resA, .ch .nil, ?_⟩; exact ⟨rfl, rfl⟩)
/-- what stands in the table of pairs -/
theorem zip_at {os os2 : List (Int × List Int)} {n n2 : Int} (hp : PrsOk n n2 (os.zip os2)) (hl : os2.length = os.length) {j : Nat} (hj : j < os.length) : PrOk n n2 os[j] (os2[j]'(by omega)) := by
  have h := hp ((os.zip os2)[j]'(by simp [hl, hj])) (List.getElem_mem _)
  rw [List.getElem_zip] at h
  exact h
theorem zip_drop {os os2 : List (Int × List Int)} (hl : os2.length = os.length) {j : Nat} (hj : j < os.length) : (os.zip os2).drop j = (os[j], os2[j]'(by omega)) :: (os.zip os2).drop (j + 1) := by
  rw [List.drop_eq_getElem_cons (by simp [hl, hj]), List.getElem_zip]
/-- the rest of a round, from operation j and place i on -/
def clRest (n n2 : Int) (os os2 : List (Int × List Int)) (j : Nat) (s : List Int × Bool) : Option (List Int × Bool) := clR n n2 ((os.zip os2).drop j) s
def clMid (n n2 : Int) (os os2 : List (Int × List Int)) (o o2 : Int × List Int) (j i : Nat) (s : List Int × Bool) : Option (List Int × Bool) :=
  ((List.range' i (o.2.length - i)).foldlM (clS n n2 o o2) s).bind (clRest n n2 os os2 (j + 1))
theorem clRest_mid {n n2 : Int} {os os2 : List (Int × List Int)} (hl : os2.length = os.length) {j : Nat} (hj : j < os.length) (s : List Int × Bool) : clRest n n2 os os2 j s = clMid n n2 os os2 os[j] (os2[j]'(by omega)) j 0 s := by
  rw [clRest, zip_drop hl hj, clR, List.foldlM_cons]; rfl
theorem clMid_end {n n2 : Int} {os os2 : List (Int × List Int)} {o o2 : Int × List Int} {j i : Nat} (hi : o.2.length ≤ i) (s : List Int × Bool) : clMid n n2 os os2 o o2 j i s = clRest n n2 os os2 (j + 1) s := by
  rw [clMid, show o.2.length - i = 0 by omega]; rfl
theorem clMid_step {n n2 : Int} {os os2 : List (Int × List Int)} {o o2 : Int × List Int} {j i : Nat} (hi : i < o.2.length) (s : List Int × Bool) : clMid n n2 os os2 o o2 j i s = (clS n n2 o o2 s i).bind (clMid n n2 os os2 o o2 j (i + 1)) := by
  have e : o.2.length - i = (o.2.length - (i + 1)) + 1 := by omega
  rw [clMid, e, List.range'_succ, List.foldlM_cons]
  show (Option.bind (clS n n2 o o2 s i) _).bind _ = _
  cases clS n n2 o o2 s i <;> rfl
theorem clRest_end {n n2 : Int} {os os2 : List (Int × List Int)} (hl : os2.length = os.length) {j : Nat} (hj : os.length ≤ j) (s : List Int × Bool) : clRest n n2 os os2 j s = some s := by
  rw [clRest, List.drop_of_length_le (by simp [hl, hj])]; rfl
theorem clRest_0 (n n2 : Int) (os os2 : List (Int × List Int)) (s : List Int × Bool) : clRest n n2 os os2 0 s = clR n n2 (os.zip os2) s := by rw [clRest, List.drop_zero]
/-- the loop over the rounds -/
structure RndI (n n2 : Int) (os os2 : List (Int × List Int)) (O : Option (List Int)) (k : Nat) (f : List Int) (ch : Bool) : Prop where
  ok : MapOk n n2 f
  go : ch = true → clF n n2 (os.zip os2) k f = O ∧ opens f < k
  no : ch = false → O = some f
/-- within a round -/
structure OpI (n n2 : Int) (os os2 : List (Int × List Int)) (O : Option (List Int)) (k : Nat) (f0 : List Int) (s : List Int × Bool) : Prop where
  cl : Cls n n2 (f0, false) s
  few : opens f0 < k + 1
  run : clF n n2 (os.zip os2) (k + 1) f0 = O
theorem RndI.start {n n2 : Int} {os os2 : List (Int × List Int)} {O : Option (List Int)} {k : Nat} {f : List Int} (h : RndI n n2 os os2 O k f true) : ∃ k', k = k' + 1 ∧ OpI n n2 os os2 O k' f (f, false) := by
  obtain ⟨h1, h2⟩ := h.go rfl
  obtain ⟨k', rfl⟩ := Nat.exists_eq_succ_of_ne_zero (by omega : k ≠ 0)
  exact ⟨k', rfl, .refl h.ok, h2, h1⟩
theorem OpI.stop {n n2 : Int} {os os2 : List (Int × List Int)} {O : Option (List Int)} {k : Nat} {f0 : List Int} {s : List Int × Bool} (h : OpI n n2 os os2 O k f0 s) (e : clR n n2 (os.zip os2) (f0, false) = some s) : RndI n n2 os os2 O k s.1 s.2 := by
  have h1 := h.run
  rw [clF_succ e] at h1
  refine ⟨h.cl.ok, fun e2 => ?_, fun e2 => ?_⟩
  · rw [e2, if_pos rfl] at h1
    have h2 := h.few
    refine ⟨h1, ?_⟩
    rcases h.cl.lt e2 with h3 | h3
    · cases h3
    · (try dsimp only at h3); omega
  · rw [e2, if_neg (by decide)] at h1; exact h1.symm
theorem OpI.fail {n n2 : Int} {os os2 : List (Int × List Int)} {O : Option (List Int)} {k : Nat} {f0 : List Int} {s : List Int × Bool} (h : OpI n n2 os os2 O k f0 s) (e : clR n n2 (os.zip os2) (f0, false) = none) : O = none := by
  rw [← h.run, clF_none e]
theorem OpI.step {n n2 : Int} {os os2 : List (Int × List Int)} {O : Option (List Int)} {k : Nat} {f0 : List Int} {s s' : List Int × Bool} (h : OpI n n2 os os2 O k f0 s) (h0 : MapOk n n2 f0) (c : Cls n n2 s s') : OpI n n2 os os2 O k f0 s' :=
  ⟨h.cl.trans h0 c, h.few, h.run⟩
set_option maxRecDepth 10000 in
set_option maxHeartbeats 4000000 in
theorem closeMap_c (n n2 : Int) (os os2 : List (Int × List Int)) (sf : Sv) (f : List Int) (k0 : Nat) (hp : PrsOk n n2 (os.zip os2)) (hl : os2.length = os.length) (h4 : os.length ≤ 4) (hf : MapOk n n2 f) (hk : opens f < k0) :
    Spec Try.prog 222 [vagg [vint n, vsl 2 (fun y : Int × (List Int) => [vint y.1, vsl 1 (fun x : Int => [vint x]) y.2]) os], vagg [vint n2, vsl 2 (fun y : Int × (List Int) => [vint y.1, vsl 1 (fun x : Int => [vint x]) y.2]) os2], vlit (vsv sf)] [hsl tInt (vsv sf) f] (fun r S' => ∃ g, r = vbool (clF n n2 (os.zip os2) k0 f).isSome ∧ S' = [hsl tInt (vsv sf) g] ∧ ∀ g', clF n n2 (os.zip os2) k0 f = some g' → g = g') := by
  obtain ⟨O, hO⟩ : ∃ O, clF n n2 (os.zip os2) k0 f = O := ⟨_, rfl⟩
  rw [hO]
  refine Spec.of_run2 (n := 70) Try.func222 rfl Try.results222 Try.ntmps222 rfl ?_
  repeat' (first | (with_reducible refine RL.done ?_) | (with_reducible refine RL.wanted ?_ ?_; exact rfl) | ((with_reducible show RH _ _ _ ⟨some 3, .box _ _, _, _, _, _⟩ _ _ _ _); (refine RH.boxAgg rfl rfl ?_; rintro _ _ ⟨b3, rfl, rfl⟩)) | ((with_reducible show RH _ _ _ ⟨some 4, .box _ _, _, _, _, _⟩ _ _ _ _); (refine RH.boxAgg rfl rfl ?_; rintro _ _ ⟨b4, rfl, rfl⟩)) | ((with_reducible show RH _ _ _ _ _ _ _ _); refine RH.val (hK := ?_)) | (with_reducible first | refine Run.seq ?_ | refine Run.region ?_ | refine Run.block ?_) | (with_reducible refine seqN (K := Run _ _ _ _) ?_))
  refine Run.loop (α := Nat × List Int × Bool) (fun x => [(2, vlit (vsv sf)), (3, vptr b3 0), (4, vptr b4 0), (7, vbool x.2.2)]) (fun x => [hcells b4 [vint n2, vsl 2 (fun y : Int × (List Int) => [vint y.1, vsl 1 (fun x : Int => [vint x]) y.2]) os2], hcells b3 [vint n, vsl 2 (fun y : Int × (List Int) => [vint y.1, vsl 1 (fun x : Int => [vint x]) y.2]) os], hsl tInt (vsv sf) x.2.1]) (fun x => RndI n n2 os os2 O x.1 x.2.1 x.2.2) (fun x => if x.2.2 then x.1 + 1 else 0) (k0, f, true) ⟨hf, fun _ => ⟨hO, hk⟩, fun e => (by cases e)⟩ (Ent.of slA chA) ?_
  rintro ⟨k, g, ch⟩ hI
  (try dsimp only at hI ⊢)
  cases ch with
  | false =>
    obtain rfl := hI.no rfl
    repeat' (first | (with_reducible refine RL.done ?_) | (with_reducible refine RL.wanted ?_ ?_; exact rfl) | ((with_reducible show RH _ _ _ _ _ _ _ _); refine RH.val (hK := ?_)) | (with_reducible first | refine Run.seq ?_ | refine Run.region ?_ | refine Run.exit ?_ | refine Run.ret ?_) | (with_reducible show Run _ _ (.cond _ _ _) _ _ _; refine Run.condF rfl ?_) | (with_reducible first | refine seqN (K := Run _ _ _ _) ?_ | refine seqE ?_ | refine blockE ?_))
    refine ⟨eA, _, [hsl tInt (vsv sf) g], resA, ?_, ?_⟩
    · exact SEnt.ch chA
    · exact ⟨g, rfl, rfl, fun g' e => by cases e; rfl⟩
  | true =>
    obtain ⟨k, rfl, hJ⟩ := hI.start
    have hg := hI.ok
    repeat' (first | (with_reducible refine RL.done ?_) | (with_reducible refine RL.wanted ?_ ?_; exact rfl) | ((with_reducible show RH _ _ _ _ _ _ _ _); refine RH.val (hK := ?_)) | (with_reducible first | refine Run.seq ?_ | refine Run.region ?_ | refine Run.block ?_ | refine Run.skip ?_) | (with_reducible show Run _ _ (.cond _ _ _) _ _ _; refine Run.condT rfl ?_) | (with_reducible refine seqN (K := Run _ _ _ _) ?_))
    refine Run.loop (α := Nat × List Int × Bool) (fun x => [(2, vlit (vsv sf)), (3, vptr b3 0), (4, vptr b4 0), (7, vbool x.2.2), (15, vsl 2 (fun y : Int × (List Int) => [vint y.1, vsl 1 (fun x : Int => [vint x]) y.2]) os), (16, vint (os.length : Int)), (17, vint (x.1 : Int))]) (fun x => [hcells b4 [vint n2, vsl 2 (fun y : Int × (List Int) => [vint y.1, vsl 1 (fun x : Int => [vint x]) y.2]) os2], hcells b3 [vint n, vsl 2 (fun y : Int × (List Int) => [vint y.1, vsl 1 (fun x : Int => [vint x]) y.2]) os], hsl tInt (vsv sf) x.2.1]) (fun x => x.1 ≤ os.length ∧ OpI n n2 os os2 O k g x.2 ∧ clRest n n2 os os2 x.1 x.2 = clR n n2 (os.zip os2) (g, false)) (fun x => os.length - x.1) (0, g, false) ⟨Nat.zero_le _, hJ, clRest_0 _ _ _ _ _⟩ (Ent.of slA chA) ?_
    rintro ⟨j, s, c⟩ ⟨hj, hK, hrun⟩
    (try dsimp only at hj hK hrun ⊢)
    rcases Nat.lt_or_eq_of_le hj with h9 | rfl
    · have hpr := zip_at hp hl h9
      rw [clRest_mid hl h9] at hrun
      have htb := hpr.tab
      have hpw := pw_512' n hpr.n1 hpr.n8 os[j].1.toNat (by have := hpr.a3; omega)
      have ha0 := hpr.a0
      have hkf : ((os[j].1.toNat : Nat) : Int) = os[j].1 := by omega
      repeat' (first | (with_reducible refine RL.done ?_) | (with_reducible refine RL.wanted ?_ ?_; exact rfl) | ((with_reducible show RH _ _ _ ⟨some 9, .alloc _, _, _, _, _⟩ _ _ _ _); refine RH.alloc rfl ?_; rintro _ _ ⟨b9, rfl, rfl⟩) | ((with_reducible show RH _ _ _ _ _ _ _ _); first | refine RH.val (hK := ?_) | refine RH.upd (hK := ?_)) | (with_reducible first | refine Run.seq ?_ | refine Run.region ?_ | refine Run.block ?_ | refine Run.skip ?_ | refine Run.exit ?_) | (with_reducible show Run _ _ (.cond _ _ _) _ _ _; refine Run.condD rfl (fun h => ?_) (fun h => ?_)) | (with_reducible first | refine seqN (K := Run _ _ _ _) ?_ | refine seqE ?_ | refine blockN ?_ | refine blockE ?_))
      all_goals first
        | (exfalso; omega)
        | skip
      refine Run.loop (α := Nat × List Int × Bool) (fun x => [(2, vlit (vsv sf)), (3, vptr b3 0), (4, vptr b4 0), (7, vbool x.2.2), (8, vint (j : Int)), (9, vptr b9 0), (15, vsl 2 (fun y : Int × (List Int) => [vint y.1, vsl 1 (fun x : Int => [vint x]) y.2]) os), (16, vint (os.length : Int)), (17, vint (j : Int)), (23, vsl 1 (fun x : Int => [vint x]) os[j].2), (24, vint (os[j].2.length : Int)), (25, vint (x.1 : Int))]) (fun x => [hcells b9 [vint os[j].1, vsl 1 (fun x : Int => [vint x]) os[j].2], hcells b4 [vint n2, vsl 2 (fun y : Int × (List Int) => [vint y.1, vsl 1 (fun x : Int => [vint x]) y.2]) os2], hcells b3 [vint n, vsl 2 (fun y : Int × (List Int) => [vint y.1, vsl 1 (fun x : Int => [vint x]) y.2]) os], hsl tInt (vsv sf) x.2.1]) (fun x => x.1 ≤ os[j].2.length ∧ OpI n n2 os os2 O k g x.2 ∧ clMid n n2 os os2 os[j] (os2[j]'(by omega)) j x.1 x.2 = clR n n2 (os.zip os2) (g, false)) (fun x => os[j].2.length - x.1) (0, s, c) ⟨Nat.zero_le _, hK, hrun⟩ (Ent.of slA chA) ?_
      rintro ⟨i, t, d⟩ ⟨hi, hM, hrun2⟩
      (try dsimp only at hi hM hrun2 ⊢)
      rcases Nat.lt_or_eq_of_le hi with h8 | rfl
      · rw [clMid_step h8] at hrun2
        have ht : MapOk n n2 t := hM.cl.ok
        have htl := ht.len
        obtain ⟨hv0, hv1, hv2⟩ := hpr.step ht h8
        have hnone := noneOpen_c n t i os[j].1.toNat hpr.n1 ht.len (by have := hpr.a3; omega) (by omega)
        rw [hkf] at hnone
        cases ho : openB (imL t (lowd (i : Int) n os[j].1.toNat)) with
        | true =>
          rw [ho] at hnone
          rw [clS_open (s := (t, d)) ho] at hrun2
          repeat' (first | (with_reducible refine RL.done ?_) | (with_reducible refine RL.wanted ?_ ?_; exact rfl) | ((with_reducible show RH _ _ _ ⟨_, .call ⟨.value (.func 234), _, _⟩, _, _, _, _⟩ _ _ _ _); refine RH.cL Try.call234 ?_; apply Exists.intro; apply And.intro; (focus ((repeat (first | exact LVs.nil | (apply LVs.sl; (with_reducible repeat (first | exact Has.head | apply Has.tail)); exact inferInstance; exact rfl) | apply LVs.refl)); done)); refine ⟨_, hnone, (by intro r H h; first | (obtain ⟨rfl, rfl⟩ := h; exact ⟨inferInstance, inferInstance⟩) | (obtain ⟨_, rfl, rfl⟩ := h; exact ⟨inferInstance, inferInstance⟩) | (obtain ⟨_, _, rfl, rfl⟩ := h; exact ⟨inferInstance, inferInstance⟩) | (obtain ⟨_, _, rfl, rfl, _⟩ := h; exact ⟨inferInstance, inferInstance⟩)), ?_⟩; rintro _ _ ⟨rfl, rfl⟩; refine RL.nm ?_) | ((with_reducible show RH _ _ _ _ _ _ _ _); refine RH.val (hK := ?_)) | (with_reducible first | refine Run.seq ?_ | refine Run.region ?_ | refine Run.block ?_ | refine Run.skip ?_ | refine Run.exit ?_) | (with_reducible show Run _ _ (.cond _ _ _) _ _ _; first | refine Run.condT rfl ?_ | refine Run.condD rfl (fun h => ?_) (fun h => ?_)) | (with_reducible first | refine seqN (K := Run _ _ _ _) ?_ | refine seqE ?_ | refine blockN ?_ | refine blockE ?_))
          all_goals first
            | (exfalso; omega)
            | (with_reducible refine seqN ?_
               exact ⟨(i + 1, t, d), ⟨by (try dsimp only); omega, hM, hrun2⟩, by (try dsimp only); omega, Ent.of slA chA⟩)
        | false =>
          rw [ho] at hnone
          have himg := imageIndex_c n n2 os os2 t i os[j].1.toNat hpr.n1 hpr.m1 hpr.m8 ht (by have := hpr.a3; omega) (by omega) ho
          rw [hkf] at himg
          obtain ⟨hw0, hw1, hw2, hw3, hw4, hw5⟩ := hpr.val ht ho
          by_cases hlt : t[(os[j].2[i]).toNat] < 0
          · rw [clS_set ho h8 hv2 hlt] at hrun2
            have hc : Cls n n2 (t, d) (t.set (os[j].2[i]).toNat (clV n n2 os[j] (os2[j]'(by omega)) t i), true) := hpr.cls ht h8 (clS_set ho h8 hv2 hlt)
            repeat' (first | (with_reducible refine RL.done ?_) | (with_reducible refine RL.wanted ?_ ?_; exact rfl) | ((with_reducible show Run _ _ (.region 11 _ true) _ _ _); refine Run.regionD (fun i => false) rfl ?_; change RD _ _ _ _ _ _ 16 (dm 16 0) _ _) | ((with_reducible show RD _ _ 11 _ _ _ _ _ _ _); first | ((with_reducible show RD _ _ _ _ _ _ _ (dm 16 0) _ _); refine RD.tk 0 (dm 16 57402) (dm 16 1) (hK := ?_)) | ((with_reducible show RD _ _ _ _ _ _ _ (dm 16 1) _ _); refine RD.tk 1 (dm 16 57400) (dm 16 3) (hK := ?_)) | ((with_reducible show RD _ _ _ _ _ _ _ (dm 16 3) _ _); refine RD.tk 2 (dm 16 57400) (dm 16 7) (hK := ?_)) | ((with_reducible show RD _ _ _ _ _ _ _ (dm 16 7) _ _); refine RD.tk 3 (dm 16 57392) (dm 16 15) (hK := ?_)) | ((with_reducible show RD _ _ _ _ _ _ _ (dm 16 15) _ _); refine RD.tk 4 (dm 16 57376) (dm 16 31) (hK := ?_)) | ((with_reducible show RD _ _ _ _ _ _ _ (dm 16 31) _ _); refine RD.tk 5 (dm 16 57344) (dm 16 63) (hK := ?_)) | ((with_reducible show RD _ _ _ _ _ _ _ (dm 16 63) _ _); refine RD.tk 6 (dm 16 61440) (dm 16 127) (hK := ?_)) | ((with_reducible show RD _ _ _ _ _ _ _ (dm 16 127) _ _); refine RD.tk 7 (dm 16 61696) (dm 16 255) (hK := ?_)) | ((with_reducible show RD _ _ _ _ _ _ _ (dm 16 255) _ _); refine RD.tk 8 (dm 16 61440) (dm 16 511) (hK := ?_)) | ((with_reducible show RD _ _ _ _ _ _ _ (dm 16 511) _ _); refine RD.tk 9 (dm 16 61440) (dm 16 1023) (hK := ?_)) | ((with_reducible show RD _ _ _ _ _ _ _ (dm 16 1023) _ _); refine RD.tk 10 (dm 16 61440) (dm 16 2047) (hK := ?_)) | ((with_reducible show RD _ _ _ _ _ _ _ (dm 16 2047) _ _); refine RD.tk 11 (dm 16 61440) (dm 16 4095) (hK := ?_)) | ((with_reducible show RD _ _ _ _ _ _ _ (dm 16 4095) _ _); refine RD.a1 12 ?_) | ((with_reducible show RD _ _ _ _ _ _ _ (dm 16 8191) _ _); refine RD.tk 13 (dm 16 49152) (dm 16 16383) (hK := ?_)) | ((with_reducible show RD _ _ _ _ _ _ _ (dm 16 16383) _ _); refine RD.tk 14 (dm 16 32768) (dm 16 32767) (hK := ?_)) | ((with_reducible show RD _ _ _ _ _ _ _ (dm 16 32767) _ _); refine RD.tk 15 (dm 16 0) (dm 16 65535) (hK := ?_)) | ((with_reducible show RD _ _ _ _ _ _ 0 _ _ _); refine RD.done (by kernel_rfl) ?_)) | ((with_reducible show RO _ _ 11 _ _ _ _ _ _ _ _); ((with_reducible show RO _ _ _ _ _ _ _ (dm 16 4095) 12 _ _); (refine RO.cL (dm 16 8191) Try.call235 ?_; apply Exists.intro; apply And.intro; (focus ((repeat (first | exact LVs.nil | (apply LVs.sl; (with_reducible repeat (first | exact Has.head | apply Has.tail)); exact inferInstance; exact rfl) | apply LVs.agg | apply LVs.refl)); done)); refine ⟨_, himg, (by intro r H h; first | (obtain ⟨rfl, rfl⟩ := h; exact ⟨inferInstance, inferInstance⟩) | (obtain ⟨_, rfl, rfl⟩ := h; exact ⟨inferInstance, inferInstance⟩) | (obtain ⟨_, _, rfl, rfl⟩ := h; exact ⟨inferInstance, inferInstance⟩) | (obtain ⟨_, _, rfl, rfl, _⟩ := h; exact ⟨inferInstance, inferInstance⟩)), ?_⟩; rintro _ _ ⟨rfl, rfl⟩; refine RD.nm ?_))) | ((with_reducible show RH _ _ _ ⟨_, .call ⟨.value (.func 234), _, _⟩, _, _, _, _⟩ _ _ _ _); refine RH.cL Try.call234 ?_; apply Exists.intro; apply And.intro; (focus ((repeat (first | exact LVs.nil | (apply LVs.sl; (with_reducible repeat (first | exact Has.head | apply Has.tail)); exact inferInstance; exact rfl) | apply LVs.refl)); done)); refine ⟨_, hnone, (by intro r H h; first | (obtain ⟨rfl, rfl⟩ := h; exact ⟨inferInstance, inferInstance⟩) | (obtain ⟨_, rfl, rfl⟩ := h; exact ⟨inferInstance, inferInstance⟩) | (obtain ⟨_, _, rfl, rfl⟩ := h; exact ⟨inferInstance, inferInstance⟩) | (obtain ⟨_, _, rfl, rfl, _⟩ := h; exact ⟨inferInstance, inferInstance⟩)), ?_⟩; rintro _ _ ⟨rfl, rfl⟩; refine RL.nm ?_) | ((with_reducible show RH _ _ _ _ _ _ _ _); first | refine RH.val (hK := ?_) | refine RH.upd (hK := ?_)) | (with_reducible first | refine Run.seq ?_ | refine Run.region ?_ | refine Run.block ?_ | refine Run.skip ?_ | refine Run.exit ?_ | refine Run.ret ?_) | (with_reducible show Run _ _ (.cond _ _ _) _ _ _; first | refine Run.condF rfl ?_ | refine Run.condD rfl (fun h => ?_) (fun h => ?_)) | (with_reducible first | refine seqN (K := Run _ _ _ _) ?_ | refine seqE ?_ | refine seqR ?_ | refine blockN ?_ | refine blockR ?_ | refine blockE ?_))
            all_goals first
              | (exfalso; omega)
              | (with_reducible refine seqN ?_
                 exact ⟨(i + 1, _, true), ⟨by (try dsimp only); omega, hM.step hg hc, hrun2⟩, by (try dsimp only); omega, Ent.of slA (by rw [hw3]; exact chA)⟩)
          · by_cases heq : t[(os[j].2[i]).toNat] = clV n n2 os[j] (os2[j]'(by omega)) t i
            · rw [clS_same ho h8 hv2 hlt heq] at hrun2
              rw [hw3] at heq
              repeat' (first | (with_reducible refine RL.done ?_) | (with_reducible refine RL.wanted ?_ ?_; exact rfl) | ((with_reducible show Run _ _ (.region 11 _ true) _ _ _); refine Run.regionD (fun i => false) rfl ?_; change RD _ _ _ _ _ _ 16 (dm 16 0) _ _) | ((with_reducible show RD _ _ 11 _ _ _ _ _ _ _); first | ((with_reducible show RD _ _ _ _ _ _ _ (dm 16 0) _ _); refine RD.tk 0 (dm 16 57402) (dm 16 1) (hK := ?_)) | ((with_reducible show RD _ _ _ _ _ _ _ (dm 16 1) _ _); refine RD.tk 1 (dm 16 57400) (dm 16 3) (hK := ?_)) | ((with_reducible show RD _ _ _ _ _ _ _ (dm 16 3) _ _); refine RD.tk 2 (dm 16 57400) (dm 16 7) (hK := ?_)) | ((with_reducible show RD _ _ _ _ _ _ _ (dm 16 7) _ _); refine RD.tk 3 (dm 16 57392) (dm 16 15) (hK := ?_)) | ((with_reducible show RD _ _ _ _ _ _ _ (dm 16 15) _ _); refine RD.tk 4 (dm 16 57376) (dm 16 31) (hK := ?_)) | ((with_reducible show RD _ _ _ _ _ _ _ (dm 16 31) _ _); refine RD.tk 5 (dm 16 57344) (dm 16 63) (hK := ?_)) | ((with_reducible show RD _ _ _ _ _ _ _ (dm 16 63) _ _); refine RD.tk 6 (dm 16 61440) (dm 16 127) (hK := ?_)) | ((with_reducible show RD _ _ _ _ _ _ _ (dm 16 127) _ _); refine RD.tk 7 (dm 16 61696) (dm 16 255) (hK := ?_)) | ((with_reducible show RD _ _ _ _ _ _ _ (dm 16 255) _ _); refine RD.tk 8 (dm 16 61440) (dm 16 511) (hK := ?_)) | ((with_reducible show RD _ _ _ _ _ _ _ (dm 16 511) _ _); refine RD.tk 9 (dm 16 61440) (dm 16 1023) (hK := ?_)) | ((with_reducible show RD _ _ _ _ _ _ _ (dm 16 1023) _ _); refine RD.tk 10 (dm 16 61440) (dm 16 2047) (hK := ?_)) | ((with_reducible show RD _ _ _ _ _ _ _ (dm 16 2047) _ _); refine RD.tk 11 (dm 16 61440) (dm 16 4095) (hK := ?_)) | ((with_reducible show RD _ _ _ _ _ _ _ (dm 16 4095) _ _); refine RD.a1 12 ?_) | ((with_reducible show RD _ _ _ _ _ _ _ (dm 16 8191) _ _); refine RD.tk 13 (dm 16 49152) (dm 16 16383) (hK := ?_)) | ((with_reducible show RD _ _ _ _ _ _ _ (dm 16 16383) _ _); refine RD.tk 14 (dm 16 32768) (dm 16 32767) (hK := ?_)) | ((with_reducible show RD _ _ _ _ _ _ _ (dm 16 32767) _ _); refine RD.tk 15 (dm 16 0) (dm 16 65535) (hK := ?_)) | ((with_reducible show RD _ _ _ _ _ _ 0 _ _ _); refine RD.done (by kernel_rfl) ?_)) | ((with_reducible show RO _ _ 11 _ _ _ _ _ _ _ _); ((with_reducible show RO _ _ _ _ _ _ _ (dm 16 4095) 12 _ _); (refine RO.cL (dm 16 8191) Try.call235 ?_; apply Exists.intro; apply And.intro; (focus ((repeat (first | exact LVs.nil | (apply LVs.sl; (with_reducible repeat (first | exact Has.head | apply Has.tail)); exact inferInstance; exact rfl) | apply LVs.agg | apply LVs.refl)); done)); refine ⟨_, himg, (by intro r H h; first | (obtain ⟨rfl, rfl⟩ := h; exact ⟨inferInstance, inferInstance⟩) | (obtain ⟨_, rfl, rfl⟩ := h; exact ⟨inferInstance, inferInstance⟩) | (obtain ⟨_, _, rfl, rfl⟩ := h; exact ⟨inferInstance, inferInstance⟩) | (obtain ⟨_, _, rfl, rfl, _⟩ := h; exact ⟨inferInstance, inferInstance⟩)), ?_⟩; rintro _ _ ⟨rfl, rfl⟩; refine RD.nm ?_))) | ((with_reducible show RH _ _ _ ⟨_, .call ⟨.value (.func 234), _, _⟩, _, _, _, _⟩ _ _ _ _); refine RH.cL Try.call234 ?_; apply Exists.intro; apply And.intro; (focus ((repeat (first | exact LVs.nil | (apply LVs.sl; (with_reducible repeat (first | exact Has.head | apply Has.tail)); exact inferInstance; exact rfl) | apply LVs.refl)); done)); refine ⟨_, hnone, (by intro r H h; first | (obtain ⟨rfl, rfl⟩ := h; exact ⟨inferInstance, inferInstance⟩) | (obtain ⟨_, rfl, rfl⟩ := h; exact ⟨inferInstance, inferInstance⟩) | (obtain ⟨_, _, rfl, rfl⟩ := h; exact ⟨inferInstance, inferInstance⟩) | (obtain ⟨_, _, rfl, rfl, _⟩ := h; exact ⟨inferInstance, inferInstance⟩)), ?_⟩; rintro _ _ ⟨rfl, rfl⟩; refine RL.nm ?_) | ((with_reducible show RH _ _ _ _ _ _ _ _); first | refine RH.val (hK := ?_) | refine RH.upd (hK := ?_)) | (with_reducible first | refine Run.seq ?_ | refine Run.region ?_ | refine Run.block ?_ | refine Run.skip ?_ | refine Run.exit ?_ | refine Run.ret ?_) | (with_reducible show Run _ _ (.cond _ _ _) _ _ _; first | refine Run.condF rfl ?_ | refine Run.condD rfl (fun h => ?_) (fun h => ?_)) | (with_reducible first | refine seqN (K := Run _ _ _ _) ?_ | refine seqE ?_ | refine seqR ?_ | refine blockN ?_ | refine blockR ?_ | refine blockE ?_))
              all_goals first
                | (exfalso; omega)
                | (exfalso; exact (by assumption : _ ≠ _) heq)
                | (with_reducible refine seqN ?_
                   exact ⟨(i + 1, t, d), ⟨by (try dsimp only); omega, hM, hrun2⟩, by (try dsimp only); omega, Ent.of slA chA⟩)
            · rw [clS_fail ho h8 hv2 hlt heq] at hrun2
              obtain rfl := hM.fail hrun2.symm
              rw [hw3] at heq
              repeat' (first | (with_reducible refine RL.done ?_) | (with_reducible refine RL.wanted ?_ ?_; exact rfl) | ((with_reducible show Run _ _ (.region 11 _ true) _ _ _); refine Run.regionD (fun i => false) rfl ?_; change RD _ _ _ _ _ _ 16 (dm 16 0) _ _) | ((with_reducible show RD _ _ 11 _ _ _ _ _ _ _); first | ((with_reducible show RD _ _ _ _ _ _ _ (dm 16 0) _ _); refine RD.tk 0 (dm 16 57402) (dm 16 1) (hK := ?_)) | ((with_reducible show RD _ _ _ _ _ _ _ (dm 16 1) _ _); refine RD.tk 1 (dm 16 57400) (dm 16 3) (hK := ?_)) | ((with_reducible show RD _ _ _ _ _ _ _ (dm 16 3) _ _); refine RD.tk 2 (dm 16 57400) (dm 16 7) (hK := ?_)) | ((with_reducible show RD _ _ _ _ _ _ _ (dm 16 7) _ _); refine RD.tk 3 (dm 16 57392) (dm 16 15) (hK := ?_)) | ((with_reducible show RD _ _ _ _ _ _ _ (dm 16 15) _ _); refine RD.tk 4 (dm 16 57376) (dm 16 31) (hK := ?_)) | ((with_reducible show RD _ _ _ _ _ _ _ (dm 16 31) _ _); refine RD.tk 5 (dm 16 57344) (dm 16 63) (hK := ?_)) | ((with_reducible show RD _ _ _ _ _ _ _ (dm 16 63) _ _); refine RD.tk 6 (dm 16 61440) (dm 16 127) (hK := ?_)) | ((with_reducible show RD _ _ _ _ _ _ _ (dm 16 127) _ _); refine RD.tk 7 (dm 16 61696) (dm 16 255) (hK := ?_)) | ((with_reducible show RD _ _ _ _ _ _ _ (dm 16 255) _ _); refine RD.tk 8 (dm 16 61440) (dm 16 511) (hK := ?_)) | ((with_reducible show RD _ _ _ _ _ _ _ (dm 16 511) _ _); refine RD.tk 9 (dm 16 61440) (dm 16 1023) (hK := ?_)) | ((with_reducible show RD _ _ _ _ _ _ _ (dm 16 1023) _ _); refine RD.tk 10 (dm 16 61440) (dm 16 2047) (hK := ?_)) | ((with_reducible show RD _ _ _ _ _ _ _ (dm 16 2047) _ _); refine RD.tk 11 (dm 16 61440) (dm 16 4095) (hK := ?_)) | ((with_reducible show RD _ _ _ _ _ _ _ (dm 16 4095) _ _); refine RD.a1 12 ?_) | ((with_reducible show RD _ _ _ _ _ _ _ (dm 16 8191) _ _); refine RD.tk 13 (dm 16 49152) (dm 16 16383) (hK := ?_)) | ((with_reducible show RD _ _ _ _ _ _ _ (dm 16 16383) _ _); refine RD.tk 14 (dm 16 32768) (dm 16 32767) (hK := ?_)) | ((with_reducible show RD _ _ _ _ _ _ _ (dm 16 32767) _ _); refine RD.tk 15 (dm 16 0) (dm 16 65535) (hK := ?_)) | ((with_reducible show RD _ _ _ _ _ _ 0 _ _ _); refine RD.done (by kernel_rfl) ?_)) | ((with_reducible show RO _ _ 11 _ _ _ _ _ _ _ _); ((with_reducible show RO _ _ _ _ _ _ _ (dm 16 4095) 12 _ _); (refine RO.cL (dm 16 8191) Try.call235 ?_; apply Exists.intro; apply And.intro; (focus ((repeat (first | exact LVs.nil | (apply LVs.sl; (with_reducible repeat (first | exact Has.head | apply Has.tail)); exact inferInstance; exact rfl) | apply LVs.agg | apply LVs.refl)); done)); refine ⟨_, himg, (by intro r H h; first | (obtain ⟨rfl, rfl⟩ := h; exact ⟨inferInstance, inferInstance⟩) | (obtain ⟨_, rfl, rfl⟩ := h; exact ⟨inferInstance, inferInstance⟩) | (obtain ⟨_, _, rfl, rfl⟩ := h; exact ⟨inferInstance, inferInstance⟩) | (obtain ⟨_, _, rfl, rfl, _⟩ := h; exact ⟨inferInstance, inferInstance⟩)), ?_⟩; rintro _ _ ⟨rfl, rfl⟩; refine RD.nm ?_))) | ((with_reducible show RH _ _ _ ⟨_, .call ⟨.value (.func 234), _, _⟩, _, _, _, _⟩ _ _ _ _); refine RH.cL Try.call234 ?_; apply Exists.intro; apply And.intro; (focus ((repeat (first | exact LVs.nil | (apply LVs.sl; (with_reducible repeat (first | exact Has.head | apply Has.tail)); exact inferInstance; exact rfl) | apply LVs.refl)); done)); refine ⟨_, hnone, (by intro r H h; first | (obtain ⟨rfl, rfl⟩ := h; exact ⟨inferInstance, inferInstance⟩) | (obtain ⟨_, rfl, rfl⟩ := h; exact ⟨inferInstance, inferInstance⟩) | (obtain ⟨_, _, rfl, rfl⟩ := h; exact ⟨inferInstance, inferInstance⟩) | (obtain ⟨_, _, rfl, rfl, _⟩ := h; exact ⟨inferInstance, inferInstance⟩)), ?_⟩; rintro _ _ ⟨rfl, rfl⟩; refine RL.nm ?_) | ((with_reducible show RH _ _ _ _ _ _ _ _); first | refine RH.val (hK := ?_) | refine RH.upd (hK := ?_)) | (with_reducible first | refine Run.seq ?_ | refine Run.region ?_ | refine Run.block ?_ | refine Run.skip ?_ | refine Run.exit ?_ | refine Run.ret ?_) | (with_reducible show Run _ _ (.cond _ _ _) _ _ _; first | refine Run.condF rfl ?_ | refine Run.condD rfl (fun h => ?_) (fun h => ?_)) | (with_reducible first | refine seqN (K := Run _ _ _ _) ?_ | refine seqE ?_ | refine seqR ?_ | refine blockN ?_ | refine blockR ?_ | refine blockE ?_))
              all_goals first
                | (exfalso; omega)
                | (exfalso; exact (by assumption : ¬ _ ≠ _) heq)
                | (refine ⟨eA, _, [hsl tInt (vsv sf) t], resA, ?_, ?_⟩
                   · exact SEnt.ch chA
                   · exact ⟨t, rfl, rfl, fun g' e => by cases e⟩)
      · rw [clMid_end (Nat.le_refl _)] at hrun2
        repeat' (first | (with_reducible refine RL.done ?_) | (with_reducible refine RL.wanted ?_ ?_; exact rfl) | ((with_reducible show RH _ _ _ _ _ _ _ _); refine RH.val (hK := ?_)) | (with_reducible first | refine Run.seq ?_ | refine Run.region ?_ | refine Run.block ?_ | refine Run.skip ?_ | refine Run.exit ?_) | (with_reducible show Run _ _ (.cond _ _ _) _ _ _; refine Run.condD rfl (fun h => ?_) (fun h => ?_)) | (with_reducible first | refine seqN (K := Run _ _ _ _) ?_ | refine seqE ?_ | refine blockN ?_ | refine blockE ?_))
        all_goals first
          | (exfalso; omega)
          | (with_reducible refine seqN ?_
             exact ⟨(j + 1, t, d), ⟨by (try dsimp only); omega, hM, hrun2⟩, by (try dsimp only); omega, Ent.of slA chA⟩)
    · rw [clRest_end hl (Nat.le_refl _)] at hrun
      have hS := hK.stop hrun.symm
      repeat' (first | (with_reducible refine RL.done ?_) | (with_reducible refine RL.wanted ?_ ?_; exact rfl) | ((with_reducible show RH _ _ _ ⟨some 9, .alloc _, _, _, _, _⟩ _ _ _ _); refine RH.alloc rfl ?_; rintro _ _ ⟨b9, rfl, rfl⟩) | ((with_reducible show RH _ _ _ _ _ _ _ _); first | refine RH.val (hK := ?_) | refine RH.upd (hK := ?_)) | (with_reducible first | refine Run.seq ?_ | refine Run.region ?_ | refine Run.block ?_ | refine Run.skip ?_ | refine Run.exit ?_) | (with_reducible show Run _ _ (.cond _ _ _) _ _ _; refine Run.condD rfl (fun h => ?_) (fun h => ?_)) | (with_reducible first | refine seqN (K := Run _ _ _ _) ?_ | refine seqE ?_ | refine blockN ?_ | refine blockE ?_))
      all_goals first
        | (exfalso; omega)
        | (with_reducible refine seqN ?_
           exact ⟨(k, s, c), hS, by (try dsimp only); split <;> simp, Ent.of slA chA⟩)
end Go.Proofs.Ytejeeokjjbiadaa
