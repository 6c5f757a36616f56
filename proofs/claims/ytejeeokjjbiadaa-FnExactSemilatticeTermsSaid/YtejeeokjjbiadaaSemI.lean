/- Semilattice operations: impl.IsIdempotent, IsCommutative, IsAssociative, isSemilattice. Proved for this program; conditions: a valid algebra, a binary operation. -/
import Derived.Test.YtejeeokjjbiadaaSemP
namespace Go.Proofs.Ytejeeokjjbiadaa
open Go Go.Proofs
set_option linter.unusedVariables false
theorem toNat_idx {N x y : Nat} : ((x : Int) * (N : Int) + (y : Int)).toNat = x * N + y := by rw [← Int.natCast_mul, ← Int.natCast_add, Int.toNat_natCast]
theorem idx_val {N : Nat} {t : List Int} (hl : t.length = N * N) {v w : Int} {a z : Nat} (hv : v = (a : Int)) (hw : w = (z : Int)) (ha : a < N) (hz : z < N) (h : (v * (N : Int) + w).toNat < t.length) : t[(v * (N : Int) + w).toNat] = at2 N t a z := by
  subst hv hw
  exact at2_at hl ha hz toNat_idx h
theorem idx_bd {N : Nat} {t : List Int} (hl : t.length = N * N) (h8 : N ≤ 8) {a z : Nat} (ha : a < N) (hz : z < N) : 0 ≤ (a : Int) * (N : Int) ∧ (a : Int) * (N : Int) ≤ 64 ∧ (a : Int) * (N : Int) + (z : Int) < (t.length : Int) := by
  have h1 := idx_lt ha hz
  have h2 : a * N ≤ 8 * 8 := Nat.mul_le_mul (by omega) h8
  rw [← Int.natCast_mul]
  rw [← hl] at h1
  omega
set_option maxRecDepth 10000 in
theorem hasOpB_c (N : Nat) (os : List (Int × List Int)) (op : Nat) (t : List Int) (hb : BinOk N os op t) (hol : os.length ≤ 4611686018427387904) (ho : OpsLen os) :
    Spec Try.prog 89 [vagg [vint (N : Int), vsl 2 (fun y : Int × (List Int) => [vint y.1, vsl 1 (fun x : Int => [vint x]) y.2]) os], vint (op : Int)] [] (fun r S' => r = vbool true ∧ S' = []) := by
  have hG := isAlgebra_c (N : Int) os hol ho
  rw [hb.alg] at hG
  have hlt := hb.lt
  refine Spec.of_run2 (n := 18) Try.func89 rfl Try.results89 Try.ntmps89 rfl ?_
  repeat' (first | (with_reducible first | refine RL.done ?_ | refine RL.app0 ?_) | (with_reducible refine RL.wanted ?_ ?_; exact rfl) | ((with_reducible show RH _ _ _ ⟨some 2, .box _ _, _, _, _, _⟩ _ _ _ _); (refine RH.boxAgg rfl rfl ?_; rintro _ _ ⟨b2, rfl, rfl⟩)) | ((with_reducible show RH _ _ _ ⟨_, .call ⟨.value (.func 96), _, _⟩, _, _, _, _⟩ _ _ _ _); refine RH.cP Try.call96 ?_; refine ⟨_, hG, ?_⟩; rintro _ _ ⟨rfl, rfl⟩) | ((with_reducible show RH _ _ _ _ _ _ _ _); refine RH.val (hK := ?_)) | (with_reducible show RL _ _ _ (_ :: _) _ _ _; refine RL.guardYes rfl rfl rfl rfl ?_) | (with_reducible first | refine Run.seq ?_ | refine Run.region ?_ | refine Run.ret ?_) | (with_reducible refine seqN (K := Run _ _ _ _) ?_))
  all_goals first
    | (exfalso; omega)
    | (refine ⟨eA, _, [], resA, .ch .nil, ?_⟩
       exact ⟨rfl, rfl⟩)
    | (refine ⟨eA, _, [], resA, .ch .nil, ?_⟩
       exact ⟨by rw [decide_eq_true (by omega)]; rfl, rfl⟩)
    | (exfalso; simp_all; done)
set_option maxRecDepth 10000 in
theorem isBinary_c (N : Nat) (os : List (Int × List Int)) (op : Nat) (t : List Int) (hb : BinOk N os op t) (hol : os.length ≤ 4611686018427387904) (ho : OpsLen os) :
    Spec Try.prog 206 [vagg [vint (N : Int), vsl 2 (fun y : Int × (List Int) => [vint y.1, vsl 1 (fun x : Int => [vint x]) y.2]) os], vint (op : Int)] [] (fun r S' => r = vbool true ∧ S' = []) := by
  have hlt := hb.lt
  have har := hb.ar hlt
  refine Spec.of_run2 (n := 17) Try.func206 rfl Try.results206 Try.ntmps206 rfl ?_
  repeat' (first | (with_reducible first | refine RL.done ?_ | refine RL.app0 ?_) | (with_reducible refine RL.wanted ?_ ?_; exact rfl) | ((with_reducible show RH _ _ _ ⟨some 2, .box _ _, _, _, _, _⟩ _ _ _ _); (refine RH.boxAgg rfl rfl ?_; rintro _ _ ⟨b2, rfl, rfl⟩)) | ((with_reducible show RH _ _ _ ⟨_, .call ⟨.value (.func 89), _, _⟩, _, _, _, _⟩ _ _ _ _); refine RH.cP Try.call89 ?_; refine ⟨_, hasOpB_c N os op t hb hol ho, ?_⟩; rintro _ _ ⟨rfl, rfl⟩) | ((with_reducible show RH _ _ _ _ _ _ _ _); refine RH.val (hK := ?_)) | (with_reducible show RL _ _ _ (_ :: _) _ _ _; refine RL.guardYes rfl rfl rfl rfl ?_) | (with_reducible first | refine Run.seq ?_ | refine Run.region ?_ | refine Run.ret ?_) | (with_reducible refine seqN (K := Run _ _ _ _) ?_))
  all_goals first
    | (exfalso; omega)
    | (refine ⟨eA, _, [], resA, .ch .nil, ?_⟩
       exact ⟨rfl, rfl⟩)
    | (refine ⟨eA, _, [], resA, .ch .nil, ?_⟩
       exact ⟨by rw [decide_eq_true (by omega)]; rfl, rfl⟩)
    | (exfalso; simp_all; done)
set_option maxRecDepth 10000 in
set_option maxHeartbeats 1000000 in
theorem implIdem_c (N : Nat) (os : List (Int × List Int)) (op : Nat) (t : List Int) (hb : BinOk N os op t) (hol : os.length ≤ 4611686018427387904) (ho : OpsLen os) :
    Spec Try.prog 168 [vagg [vint (N : Int), vsl 2 (fun y : Int × (List Int) => [vint y.1, vsl 1 (fun x : Int => [vint x]) y.2]) os], vint (op : Int)] [] (fun r S' => r = vtup [vbool (idB N t), vbool true] ∧ S' = []) := by
  have hlt := hb.lt
  have har := hb.ar hlt
  have htb := hb.tab hlt
  have hn8 := hb.n8
  refine Spec.of_run2 (n := 50) Try.func168 rfl Try.results168 Try.ntmps168 rfl ?_
  repeat' (first | (with_reducible first | refine RL.done ?_ | refine RL.app0 ?_) | (with_reducible refine RL.wanted ?_ ?_; exact rfl) | ((with_reducible show RH _ _ _ ⟨some 2, .box _ _, _, _, _, _⟩ _ _ _ _); (refine RH.boxAgg rfl rfl ?_; rintro _ _ ⟨b2, rfl, rfl⟩)) | ((with_reducible show RH _ _ _ ⟨some 6, .alloc _, _, _, _, _⟩ _ _ _ _); refine RH.alloc rfl ?_; rintro _ _ ⟨b6, rfl, rfl⟩) | ((with_reducible show RH _ _ _ ⟨_, .call ⟨.value (.func 89), _, _⟩, _, _, _, _⟩ _ _ _ _); refine RH.cP Try.call89 ?_; refine ⟨_, hasOpB_c N os op t hb hol ho, ?_⟩; rintro _ _ ⟨rfl, rfl⟩) | ((with_reducible show RH _ _ _ _ _ _ _ _); first | refine RH.val (hK := ?_) | refine RH.upd (hK := ?_)) | (with_reducible first | refine Run.seq ?_ | refine Run.region ?_ | refine Run.block ?_ | refine Run.skip ?_ | refine Run.ret ?_) | (with_reducible show Run _ _ (.cond _ _ _) _ _ _; first | refine Run.condF rfl ?_ | refine Run.condD rfl (fun h => ?_) (fun h => ?_)) | (with_reducible first | refine seqN (K := Run _ _ _ _) ?_ | refine seqR ?_))
  all_goals first
    | (exfalso; omega)
    | skip
  rw [har, htb]
  refine Run.loop (α := Nat) (fun x => [(2, vptr b2 0), (6, vptr b6 0), (7, vint (x : Int))]) (fun _ => [hcells b6 [vint 2, vsl 1 (fun x : Int => [vint x]) t], hcells b2 [vint (N : Int), vsl 2 (fun y : Int × (List Int) => [vint y.1, vsl 1 (fun x : Int => [vint x]) y.2]) os]]) (fun x => x ≤ N ∧ (List.range x).all (idX N t) = true) (fun x => N - x) 0 ⟨Nat.zero_le _, rfl⟩ (Ent.of slA .refl) ?_
  rintro x ⟨hx, hall⟩
  rcases Nat.lt_or_eq_of_le hx with h9 | h9
  · obtain ⟨b1, b3, b4⟩ := idx_bd hb.len hn8 h9 h9
    repeat' (first | (with_reducible refine RL.done ?_) | (with_reducible refine RL.wanted ?_ ?_; exact rfl) | ((with_reducible show RH _ _ _ _ _ _ _ _); refine RH.val (hK := ?_)) | (with_reducible first | refine Run.seq ?_ | refine Run.region ?_ | refine Run.block ?_ | refine Run.skip ?_ | refine Run.exit ?_ | refine Run.ret ?_) | (with_reducible show Run _ _ (.cond _ _ _) _ _ _; refine Run.condD rfl (fun h => ?_) (fun h => ?_)) | (with_reducible first | refine seqN (K := Run _ _ _ _) ?_ | refine seqE ?_ | refine blockE ?_))
    all_goals first
      | (exfalso; omega)
      | skip
    refine Run.loop (α := Nat × Int) (fun z => [(2, vptr b2 0), (6, vptr b6 0), (7, vint (x : Int)), (8, vint z.2), (9, vint (z.1 : Int))]) (fun _ => [hcells b6 [vint 2, vsl 1 (fun x : Int => [vint x]) t], hcells b2 [vint (N : Int), vsl 2 (fun y : Int × (List Int) => [vint y.1, vsl 1 (fun x : Int => [vint x]) y.2]) os]]) (fun z => (z.1 = 0 ∧ z.2 = 0) ∨ (z.1 = 1 ∧ z.2 = (x : Int)) ∨ (z.1 = 2 ∧ z.2 = (x : Int) * (N : Int) + (x : Int))) (fun z => 2 - z.1) (0, 0) (.inl ⟨rfl, rfl⟩) (Ent.of slA .refl) ?_
    rintro ⟨k, v⟩ (⟨hk, hv0⟩ | ⟨hk, hv0⟩ | ⟨hk, hv0⟩)
    all_goals (dsimp only at hk hv0; subst hk hv0; dsimp only)
    · repeat' (first | (with_reducible refine RL.done ?_) | (with_reducible refine RL.wanted ?_ ?_; exact rfl) | ((with_reducible show RH _ _ _ _ _ _ _ _); refine RH.val (hK := ?_)) | (with_reducible first | refine Run.seq ?_ | refine Run.region ?_ | refine Run.block ?_ | refine Run.skip ?_) | (with_reducible show Run _ _ (.cond _ _ _) _ _ _; refine Run.condT rfl ?_) | (with_reducible first | refine seqN (K := Run _ _ _ _) ?_ | refine blockN ?_))
      all_goals first
        | (exfalso; omega)
        | (with_reducible refine seqN ?_
           exact ⟨(1, 0 * (N : Int) + (x : Int)), .inr (.inl ⟨rfl, by dsimp only; omega⟩), by dsimp only; omega, Ent.of (by dsimp only; exact slA) chA⟩)
    · repeat' (first | (with_reducible refine RL.done ?_) | (with_reducible refine RL.wanted ?_ ?_; exact rfl) | ((with_reducible show RH _ _ _ _ _ _ _ _); refine RH.val (hK := ?_)) | (with_reducible first | refine Run.seq ?_ | refine Run.region ?_ | refine Run.block ?_ | refine Run.skip ?_) | (with_reducible show Run _ _ (.cond _ _ _) _ _ _; refine Run.condT rfl ?_) | (with_reducible first | refine seqN (K := Run _ _ _ _) ?_ | refine blockN ?_))
      all_goals first
        | (exfalso; omega)
        | (with_reducible refine seqN ?_
           exact ⟨(2, (x : Int) * (N : Int) + (x : Int)), .inr (.inr ⟨rfl, rfl⟩), by dsimp only; omega, Ent.of (by dsimp only; exact slA) chA⟩)
    · have hlt2 : ((x : Int) * (N : Int) + (x : Int)).toNat < t.length := by omega
      have hv := idx_val hb.len (v := (x : Int)) (w := (x : Int)) rfl rfl h9 h9 hlt2
      repeat' (first | (with_reducible refine RL.done ?_) | (with_reducible refine RL.wanted ?_ ?_; exact rfl) | ((with_reducible show RH _ _ _ _ _ _ _ _); refine RH.val (hK := ?_)) | (with_reducible first | refine Run.seq ?_ | refine Run.region ?_ | refine Run.skip ?_ | refine Run.exit ?_ | refine Run.ret ?_) | (with_reducible show Run _ _ (.cond _ _ _) _ _ _; first | refine Run.condF rfl ?_ | refine Run.condD rfl (fun h => ?_) (fun h => ?_)) | (with_reducible first | refine seqN (K := Run _ _ _ _) ?_ | refine seqE ?_ | refine seqR ?_ | refine blockN ?_ | refine blockR ?_ | refine blockE ?_))
      all_goals first
        | (exfalso; omega)
        | (have hne : ¬ (t[((x : Int) * (N : Int) + (x : Int)).toNat]'hlt2 = (x : Int)) := by assumption
           rw [hv] at hne
           refine ⟨eA, _, [], resA, .ch .nil, ?_⟩
           exact ⟨by rw [idB, rng_false (idX N t) x N h9 (decide_eq_false hne)]; rfl, rfl⟩)
        | (have he : t[((x : Int) * (N : Int) + (x : Int)).toNat]'hlt2 = (x : Int) := by first | assumption | exact Decidable.not_not.1 (by assumption)
           rw [hv] at he
           with_reducible refine seqN ?_
           exact ⟨x + 1, ⟨by omega, rng_step hall (decide_eq_true he)⟩, by omega, Ent.of slA chA⟩)
  · subst h9
    repeat' (first | (with_reducible refine RL.done ?_) | (with_reducible refine RL.wanted ?_ ?_; exact rfl) | ((with_reducible show RH _ _ _ _ _ _ _ _); refine RH.val (hK := ?_)) | (with_reducible first | refine Run.seq ?_ | refine Run.region ?_ | refine Run.block ?_ | refine Run.skip ?_ | refine Run.exit ?_ | refine Run.ret ?_) | (with_reducible show Run _ _ (.cond _ _ _) _ _ _; refine Run.condD rfl (fun h => ?_) (fun h => ?_)) | (with_reducible first | refine seqN (K := Run _ _ _ _) ?_ | refine seqE ?_ | refine blockE ?_))
    all_goals first
      | (exfalso; omega)
      | (refine ⟨eA, _, [], resA, .ch .nil, ?_⟩
         exact ⟨by rw [idB, hall]; rfl, rfl⟩)
set_option maxRecDepth 10000 in
set_option maxHeartbeats 2000000 in
theorem implComm_c (N : Nat) (os : List (Int × List Int)) (op : Nat) (t : List Int) (hb : BinOk N os op t) (hol : os.length ≤ 4611686018427387904) (ho : OpsLen os) :
    Spec Try.prog 169 [vagg [vint (N : Int), vsl 2 (fun y : Int × (List Int) => [vint y.1, vsl 1 (fun x : Int => [vint x]) y.2]) os], vint (op : Int)] [] (fun r S' => r = vtup [vbool (comB N t), vbool true] ∧ S' = []) := by
  have hlt := hb.lt
  have htb := hb.tab hlt
  have hn8 := hb.n8
  refine Spec.of_run2 (n := 49) Try.func169 rfl Try.results169 Try.ntmps169 rfl ?_
  repeat' (first | (with_reducible first | refine RL.done ?_ | refine RL.app0 ?_) | (with_reducible refine RL.wanted ?_ ?_; exact rfl) | ((with_reducible show Run _ _ (.region 3 _ true) _ _ _); refine Run.regionD (fun i => false) rfl ?_; change RD _ _ _ _ _ _ 10 (dm 10 0) _ _) | ((with_reducible show RD _ _ 3 _ _ _ _ _ _ _); first | ((with_reducible show RD _ _ _ _ _ _ _ (dm 10 0) _ _); refine RD.tk 0 (dm 10 770) (dm 10 1) (hK := ?_)) | ((with_reducible show RD _ _ _ _ _ _ _ (dm 10 1) _ _); refine RD.tk 1 (dm 10 768) (dm 10 3) (hK := ?_)) | ((with_reducible show RD _ _ _ _ _ _ _ (dm 10 3) _ _); refine RD.tk 2 (dm 10 744) (dm 10 7) (hK := ?_)) | ((with_reducible show RD _ _ _ _ _ _ _ (dm 10 7) _ _); refine RD.tk 3 (dm 10 736) (dm 10 15) (hK := ?_)) | ((with_reducible show RD _ _ _ _ _ _ _ (dm 10 15) _ _); refine RD.tk 4 (dm 10 736) (dm 10 31) (hK := ?_)) | ((with_reducible show RD _ _ _ _ _ _ _ (dm 10 31) _ _); refine RD.tk 5 (dm 10 704) (dm 10 63) (hK := ?_)) | ((with_reducible show RD _ _ _ _ _ _ _ (dm 10 63) _ _); refine RD.tk 6 (dm 10 640) (dm 10 127) (hK := ?_)) | ((with_reducible show RD _ _ _ _ _ _ _ (dm 10 127) _ _); refine RD.tk 7 (dm 10 512) (dm 10 255) (hK := ?_)) | ((with_reducible show RD _ _ _ _ _ _ _ (dm 10 255) _ _); refine RD.tk 8 (dm 10 512) (dm 10 511) (hK := ?_)) | ((with_reducible show RD _ _ _ _ _ _ _ (dm 10 511) _ _); refine RD.tk 9 (dm 10 0) (dm 10 1023) (hK := ?_)) | ((with_reducible show RD _ _ _ _ _ _ 0 _ _ _); refine RD.done (by kernel_rfl) ?_)) | ((with_reducible show RH _ _ _ ⟨some 2, .box _ _, _, _, _, _⟩ _ _ _ _); (refine RH.boxAgg rfl rfl ?_; rintro _ _ ⟨b2, rfl, rfl⟩)) | ((with_reducible show RH _ _ _ ⟨_, .call ⟨.value (.func 206), _, _⟩, _, _, _, _⟩ _ _ _ _); refine RH.cP Try.call206 ?_; refine ⟨_, isBinary_c N os op t hb hol ho, ?_⟩; rintro _ _ ⟨rfl, rfl⟩) | ((with_reducible show RH _ _ _ _ _ _ _ _); refine RH.val (hK := ?_)) | (with_reducible first | refine Run.seq ?_ | refine Run.region ?_ | refine Run.block ?_ | refine Run.skip ?_) | (with_reducible show Run _ _ (.cond _ _ _) _ _ _; refine Run.condF rfl ?_) | (with_reducible refine seqN (K := Run _ _ _ _) ?_))
  all_goals first
    | (exfalso; omega)
    | skip
  rw [htb]
  refine Run.loop (α := Nat) (fun x => [(6, vint (N : Int)), (7, vsl 1 (fun x : Int => [vint x]) t), (8, vint (x : Int))]) (fun _ => []) (fun x => x ≤ N ∧ (List.range x).all (comX N t) = true) (fun x => N - x) 0 ⟨Nat.zero_le _, rfl⟩ (Ent.of slA .nil) ?_
  rintro x ⟨hx, hall⟩
  rcases Nat.lt_or_eq_of_le hx with h9 | h9
  · repeat' (first | (with_reducible refine RL.done ?_) | (with_reducible refine RL.wanted ?_ ?_; exact rfl) | ((with_reducible show RH _ _ _ _ _ _ _ _); refine RH.val (hK := ?_)) | (with_reducible first | refine Run.seq ?_ | refine Run.region ?_ | refine Run.block ?_ | refine Run.skip ?_ | refine Run.exit ?_ | refine Run.ret ?_) | (with_reducible show Run _ _ (.cond _ _ _) _ _ _; refine Run.condD rfl (fun h => ?_) (fun h => ?_)) | (with_reducible first | refine seqN (K := Run _ _ _ _) ?_ | refine seqE ?_ | refine blockE ?_))
    all_goals first
      | (exfalso; omega)
      | skip
    refine Run.loop (α := Nat) (fun y => [(6, vint (N : Int)), (7, vsl 1 (fun x : Int => [vint x]) t), (8, vint (x : Int)), (9, vint (y : Int))]) (fun _ => []) (fun y => y ≤ x ∧ (List.range y).all (comY N t x) = true) (fun y => x - y) 0 ⟨Nat.zero_le _, rfl⟩ (Ent.of slA .refl) ?_
    rintro y ⟨hy, hally⟩
    rcases Nat.lt_or_eq_of_le hy with h8 | h8
    · obtain ⟨a1, a2, a3⟩ := idx_bd hb.len hn8 h9 (show y < N by omega)
      obtain ⟨c1, c2, c3⟩ := idx_bd hb.len hn8 (show y < N by omega) h9
      have hl1 : ((x : Int) * (N : Int) + (y : Int)).toNat < t.length := by omega
      have hl2 : ((y : Int) * (N : Int) + (x : Int)).toNat < t.length := by omega
      have hv1 := idx_val hb.len (v := (x : Int)) (w := (y : Int)) rfl rfl h9 (by omega) hl1
      have hv2 := idx_val hb.len (v := (y : Int)) (w := (x : Int)) rfl rfl (by omega) h9 hl2
      repeat' (first | (with_reducible refine RL.done ?_) | (with_reducible refine RL.wanted ?_ ?_; exact rfl) | ((with_reducible show Run _ _ (.region 10 _ true) _ _ _); refine Run.regionD (fun i => false) rfl ?_; change RD _ _ _ _ _ _ 17 (dm 17 0) _ _) | ((with_reducible show RD _ _ 10 _ _ _ _ _ _ _); first | ((with_reducible show RD _ _ _ _ _ _ _ (dm 17 0) _ _); refine RD.tk 0 (dm 17 65728) (dm 17 1) (hK := ?_)) | ((with_reducible show RD _ _ _ _ _ _ _ (dm 17 1) _ _); refine RD.tk 1 (dm 17 65768) (dm 17 3) (hK := ?_)) | ((with_reducible show RD _ _ _ _ _ _ _ (dm 17 3) _ _); refine RD.tk 2 (dm 17 65768) (dm 17 7) (hK := ?_)) | ((with_reducible show RD _ _ _ _ _ _ _ (dm 17 7) _ _); refine RD.tk 3 (dm 17 65760) (dm 17 15) (hK := ?_)) | ((with_reducible show RD _ _ _ _ _ _ _ (dm 17 15) _ _); refine RD.tk 4 (dm 17 65760) (dm 17 31) (hK := ?_)) | ((with_reducible show RD _ _ _ _ _ _ _ (dm 17 31) _ _); refine RD.tk 5 (dm 17 65728) (dm 17 63) (hK := ?_)) | ((with_reducible show RD _ _ _ _ _ _ _ (dm 17 63) _ _); refine RD.tk 6 (dm 17 65664) (dm 17 127) (hK := ?_)) | ((with_reducible show RD _ _ _ _ _ _ _ (dm 17 127) _ _); refine RD.tk 7 (dm 17 65536) (dm 17 255) (hK := ?_)) | ((with_reducible show RD _ _ _ _ _ _ _ (dm 17 255) _ _); refine RD.tk 8 (dm 17 114688) (dm 17 511) (hK := ?_)) | ((with_reducible show RD _ _ _ _ _ _ _ (dm 17 511) _ _); refine RD.tk 9 (dm 17 124928) (dm 17 1023) (hK := ?_)) | ((with_reducible show RD _ _ _ _ _ _ _ (dm 17 1023) _ _); refine RD.tk 10 (dm 17 124928) (dm 17 2047) (hK := ?_)) | ((with_reducible show RD _ _ _ _ _ _ _ (dm 17 2047) _ _); refine RD.tk 11 (dm 17 122880) (dm 17 4095) (hK := ?_)) | ((with_reducible show RD _ _ _ _ _ _ _ (dm 17 4095) _ _); refine RD.tk 12 (dm 17 122880) (dm 17 8191) (hK := ?_)) | ((with_reducible show RD _ _ _ _ _ _ _ (dm 17 8191) _ _); refine RD.tk 13 (dm 17 114688) (dm 17 16383) (hK := ?_)) | ((with_reducible show RD _ _ _ _ _ _ _ (dm 17 16383) _ _); refine RD.tk 14 (dm 17 98304) (dm 17 32767) (hK := ?_)) | ((with_reducible show RD _ _ _ _ _ _ _ (dm 17 32767) _ _); refine RD.tk 15 (dm 17 65536) (dm 17 65535) (hK := ?_)) | ((with_reducible show RD _ _ _ _ _ _ _ (dm 17 65535) _ _); refine RD.tk 16 (dm 17 0) (dm 17 131071) (hK := ?_)) | ((with_reducible show RD _ _ _ _ _ _ 0 _ _ _); refine RD.done (by kernel_rfl) ?_)) | ((with_reducible show RH _ _ _ _ _ _ _ _); refine RH.val (hK := ?_)) | (with_reducible first | refine Run.seq ?_ | refine Run.region ?_ | refine Run.block ?_ | refine Run.skip ?_ | refine Run.exit ?_ | refine Run.ret ?_) | (with_reducible show Run _ _ (.cond _ _ _) _ _ _; refine Run.condD rfl (fun h => ?_) (fun h => ?_)) | (with_reducible first | refine seqN (K := Run _ _ _ _) ?_ | refine seqE ?_ | refine seqR ?_ | refine blockN ?_ | refine blockR ?_ | refine blockE ?_))
      all_goals first
        | (exfalso; omega)
        | (have hne : ¬ (t[((x : Int) * (N : Int) + (y : Int)).toNat]'hl1 = t[((y : Int) * (N : Int) + (x : Int)).toNat]'hl2) := by assumption
           rw [hv1, hv2] at hne
           refine ⟨eA, _, [], resA, .ch .nil, ?_⟩
           exact ⟨by rw [comB, rng_false (comX N t) x N h9 (rng_false (comY N t x) y x h8 (decide_eq_false hne))]; rfl, rfl⟩)
        | (have he : t[((x : Int) * (N : Int) + (y : Int)).toNat]'hl1 = t[((y : Int) * (N : Int) + (x : Int)).toNat]'hl2 := by first | assumption | exact Decidable.not_not.1 (by assumption)
           rw [hv1, hv2] at he
           with_reducible refine seqN ?_
           exact ⟨y + 1, ⟨by omega, rng_step hally (decide_eq_true he)⟩, by omega, Ent.of slA .refl⟩)
    · subst h8
      repeat' (first | (with_reducible refine RL.done ?_) | (with_reducible refine RL.wanted ?_ ?_; exact rfl) | ((with_reducible show RH _ _ _ _ _ _ _ _); refine RH.val (hK := ?_)) | (with_reducible first | refine Run.seq ?_ | refine Run.region ?_ | refine Run.block ?_ | refine Run.skip ?_ | refine Run.exit ?_) | (with_reducible show Run _ _ (.cond _ _ _) _ _ _; refine Run.condD rfl (fun h => ?_) (fun h => ?_)) | (with_reducible first | refine seqN (K := Run _ _ _ _) ?_ | refine seqE ?_ | refine blockN ?_ | refine blockE ?_))
      all_goals first
        | (exfalso; omega)
        | (with_reducible refine seqN ?_
           exact ⟨y + 1, ⟨by omega, rng_step hall hally⟩, by omega, Ent.of slA .refl⟩)
  · subst h9
    repeat' (first | (with_reducible refine RL.done ?_) | (with_reducible refine RL.wanted ?_ ?_; exact rfl) | ((with_reducible show RH _ _ _ _ _ _ _ _); refine RH.val (hK := ?_)) | (with_reducible first | refine Run.seq ?_ | refine Run.region ?_ | refine Run.block ?_ | refine Run.skip ?_ | refine Run.exit ?_ | refine Run.ret ?_) | (with_reducible show Run _ _ (.cond _ _ _) _ _ _; refine Run.condD rfl (fun h => ?_) (fun h => ?_)) | (with_reducible first | refine seqN (K := Run _ _ _ _) ?_ | refine seqE ?_ | refine blockE ?_))
    all_goals first
      | (exfalso; omega)
      | (refine ⟨eA, _, [], resA, .ch .nil, ?_⟩
         exact ⟨by rw [comB, hall]; rfl, rfl⟩)
set_option maxRecDepth 10000 in
set_option maxHeartbeats 2000000 in
theorem implAssoc_c (N : Nat) (os : List (Int × List Int)) (op : Nat) (t : List Int) (hb : BinOk N os op t) (hol : os.length ≤ 4611686018427387904) (ho : OpsLen os) :
    Spec Try.prog 170 [vagg [vint (N : Int), vsl 2 (fun y : Int × (List Int) => [vint y.1, vsl 1 (fun x : Int => [vint x]) y.2]) os], vint (op : Int)] [] (fun r S' => r = vtup [vbool (asB N t), vbool true] ∧ S' = []) := by
  have hlt := hb.lt
  have htb := hb.tab hlt
  have hn8 := hb.n8
  refine Spec.of_run2 (n := 69) Try.func170 rfl Try.results170 Try.ntmps170 rfl ?_
  repeat' (first | (with_reducible first | refine RL.done ?_ | refine RL.app0 ?_) | (with_reducible refine RL.wanted ?_ ?_; exact rfl) | ((with_reducible show Run _ _ (.region 3 _ true) _ _ _); refine Run.regionD (fun i => false) rfl ?_; change RD _ _ _ _ _ _ 10 (dm 10 0) _ _) | ((with_reducible show RD _ _ 3 _ _ _ _ _ _ _); first | ((with_reducible show RD _ _ _ _ _ _ _ (dm 10 0) _ _); refine RD.tk 0 (dm 10 770) (dm 10 1) (hK := ?_)) | ((with_reducible show RD _ _ _ _ _ _ _ (dm 10 1) _ _); refine RD.tk 1 (dm 10 768) (dm 10 3) (hK := ?_)) | ((with_reducible show RD _ _ _ _ _ _ _ (dm 10 3) _ _); refine RD.tk 2 (dm 10 744) (dm 10 7) (hK := ?_)) | ((with_reducible show RD _ _ _ _ _ _ _ (dm 10 7) _ _); refine RD.tk 3 (dm 10 736) (dm 10 15) (hK := ?_)) | ((with_reducible show RD _ _ _ _ _ _ _ (dm 10 15) _ _); refine RD.tk 4 (dm 10 736) (dm 10 31) (hK := ?_)) | ((with_reducible show RD _ _ _ _ _ _ _ (dm 10 31) _ _); refine RD.tk 5 (dm 10 704) (dm 10 63) (hK := ?_)) | ((with_reducible show RD _ _ _ _ _ _ _ (dm 10 63) _ _); refine RD.tk 6 (dm 10 640) (dm 10 127) (hK := ?_)) | ((with_reducible show RD _ _ _ _ _ _ _ (dm 10 127) _ _); refine RD.tk 7 (dm 10 512) (dm 10 255) (hK := ?_)) | ((with_reducible show RD _ _ _ _ _ _ _ (dm 10 255) _ _); refine RD.tk 8 (dm 10 512) (dm 10 511) (hK := ?_)) | ((with_reducible show RD _ _ _ _ _ _ _ (dm 10 511) _ _); refine RD.tk 9 (dm 10 0) (dm 10 1023) (hK := ?_)) | ((with_reducible show RD _ _ _ _ _ _ 0 _ _ _); refine RD.done (by kernel_rfl) ?_)) | ((with_reducible show RH _ _ _ ⟨some 2, .box _ _, _, _, _, _⟩ _ _ _ _); (refine RH.boxAgg rfl rfl ?_; rintro _ _ ⟨b2, rfl, rfl⟩)) | ((with_reducible show RH _ _ _ ⟨_, .call ⟨.value (.func 206), _, _⟩, _, _, _, _⟩ _ _ _ _); refine RH.cP Try.call206 ?_; refine ⟨_, isBinary_c N os op t hb hol ho, ?_⟩; rintro _ _ ⟨rfl, rfl⟩) | ((with_reducible show RH _ _ _ _ _ _ _ _); refine RH.val (hK := ?_)) | (with_reducible first | refine Run.seq ?_ | refine Run.region ?_ | refine Run.block ?_ | refine Run.skip ?_) | (with_reducible show Run _ _ (.cond _ _ _) _ _ _; refine Run.condF rfl ?_) | (with_reducible refine seqN (K := Run _ _ _ _) ?_))
  all_goals first
    | (exfalso; omega)
    | skip
  rw [htb]
  refine Run.loop (α := Nat) (fun x => [(6, vint (N : Int)), (7, vsl 1 (fun x : Int => [vint x]) t), (8, vint (x : Int))]) (fun _ => []) (fun x => x ≤ N ∧ (List.range x).all (asX N t) = true) (fun x => N - x) 0 ⟨Nat.zero_le _, rfl⟩ (Ent.of slA .nil) ?_
  rintro x ⟨hx, hall⟩
  rcases Nat.lt_or_eq_of_le hx with h9 | h9
  · repeat' (first | (with_reducible refine RL.done ?_) | (with_reducible refine RL.wanted ?_ ?_; exact rfl) | ((with_reducible show RH _ _ _ _ _ _ _ _); refine RH.val (hK := ?_)) | (with_reducible first | refine Run.seq ?_ | refine Run.region ?_ | refine Run.block ?_ | refine Run.skip ?_ | refine Run.exit ?_ | refine Run.ret ?_) | (with_reducible show Run _ _ (.cond _ _ _) _ _ _; refine Run.condD rfl (fun h => ?_) (fun h => ?_)) | (with_reducible first | refine seqN (K := Run _ _ _ _) ?_ | refine seqE ?_ | refine blockE ?_))
    all_goals first
      | (exfalso; omega)
      | skip
    refine Run.loop (α := Nat) (fun y => [(6, vint (N : Int)), (7, vsl 1 (fun x : Int => [vint x]) t), (8, vint (x : Int)), (9, vint (y : Int))]) (fun _ => []) (fun y => y ≤ N ∧ (List.range y).all (asY N t x) = true) (fun y => N - y) 0 ⟨Nat.zero_le _, rfl⟩ (Ent.of slA .refl) ?_
    rintro y ⟨hy, hally⟩
    rcases Nat.lt_or_eq_of_le hy with h8 | h8
    · repeat' (first | (with_reducible refine RL.done ?_) | (with_reducible refine RL.wanted ?_ ?_; exact rfl) | ((with_reducible show RH _ _ _ _ _ _ _ _); refine RH.val (hK := ?_)) | (with_reducible first | refine Run.seq ?_ | refine Run.region ?_ | refine Run.block ?_ | refine Run.skip ?_ | refine Run.exit ?_) | (with_reducible show Run _ _ (.cond _ _ _) _ _ _; refine Run.condD rfl (fun h => ?_) (fun h => ?_)) | (with_reducible first | refine seqN (K := Run _ _ _ _) ?_ | refine seqE ?_ | refine blockN ?_ | refine blockE ?_))
      all_goals first
        | (exfalso; omega)
        | skip
      refine Run.loop (α := Nat) (fun z => [(6, vint (N : Int)), (7, vsl 1 (fun x : Int => [vint x]) t), (8, vint (x : Int)), (9, vint (y : Int)), (10, vint (z : Int))]) (fun _ => []) (fun z => z ≤ N ∧ (List.range z).all (asZ N t x y) = true) (fun z => N - z) 0 ⟨Nat.zero_le _, rfl⟩ (Ent.of slA .refl) ?_
      rintro z ⟨hz, hallz⟩
      rcases Nat.lt_or_eq_of_le hz with h7 | h7
      · obtain ⟨u1, u2⟩ := at2_in hb.len hb.el h9 h8
        obtain ⟨w1, w2⟩ := at2_in hb.len hb.el h8 h7
        have hA : (at2 N t x y).toNat < N := by omega
        have hB : (at2 N t y z).toNat < N := by omega
        obtain ⟨a1, a2, a3⟩ := idx_bd hb.len hn8 h9 h8
        obtain ⟨c1, c2, c3⟩ := idx_bd hb.len hn8 h8 h7
        obtain ⟨d1, d2, d3⟩ := idx_bd hb.len hn8 hA h7
        obtain ⟨f1, f2, f3⟩ := idx_bd hb.len hn8 h9 hB
        have l1 : x * N + y < t.length := by rw [hb.len]; exact idx_lt h9 h8
        have e1 : t[x * N + y]'l1 = (((at2 N t x y).toNat : Nat) : Int) := by rw [at2_at hb.len h9 h8 rfl l1]; omega
        have p1 : t[x * N + y]'l1 * (N : Int) = (((at2 N t x y).toNat : Nat) : Int) * (N : Int) := by rw [e1]
        have l2 : (t[x * N + y]'l1 * (N : Int) + (z : Int)).toNat < t.length := by omega
        have v2 := idx_val hb.len (w := (z : Int)) e1 rfl hA h7 l2
        have l3 : y * N + z < t.length := by rw [hb.len]; exact idx_lt h8 h7
        have e3 : t[y * N + z]'l3 = (((at2 N t y z).toNat : Nat) : Int) := by rw [at2_at hb.len h8 h7 rfl l3]; omega
        have l4 : ((x : Int) * (N : Int) + t[y * N + z]'l3).toNat < t.length := by omega
        have v4 := idx_val hb.len (v := (x : Int)) rfl e3 h9 hB l4
        repeat' (first | (with_reducible refine RL.done ?_) | (with_reducible refine RL.wanted ?_ ?_; exact rfl) | ((with_reducible show Run _ _ (.region 13 _ true) _ _ _); refine Run.regionD (fun i => false) rfl ?_; change RD _ _ _ _ _ _ 31 (dm 31 0) _ _) | ((with_reducible show RD _ _ 13 _ _ _ _ _ _ _); first | ((with_reducible show RD _ _ _ _ _ _ _ (dm 31 0) _ _); refine RD.tk 0 (dm 31 1073766400) (dm 31 1) (hK := ?_)) | ((with_reducible show RD _ _ _ _ _ _ _ (dm 31 1) _ _); refine RD.tk 1 (dm 31 1073771904) (dm 31 3) (hK := ?_)) | ((with_reducible show RD _ _ _ _ _ _ _ (dm 31 3) _ _); refine RD.tk 2 (dm 31 1073771984) (dm 31 7) (hK := ?_)) | ((with_reducible show RD _ _ _ _ _ _ _ (dm 31 7) _ _); refine RD.tk 3 (dm 31 1073771984) (dm 31 15) (hK := ?_)) | ((with_reducible show RD _ _ _ _ _ _ _ (dm 31 15) _ _); refine RD.tk 4 (dm 31 1073771968) (dm 31 31) (hK := ?_)) | ((with_reducible show RD _ _ _ _ _ _ _ (dm 31 31) _ _); refine RD.tk 5 (dm 31 1073771968) (dm 31 63) (hK := ?_)) | ((with_reducible show RD _ _ _ _ _ _ _ (dm 31 63) _ _); refine RD.tk 6 (dm 31 1073771904) (dm 31 127) (hK := ?_)) | ((with_reducible show RD _ _ _ _ _ _ _ (dm 31 127) _ _); refine RD.tk 7 (dm 31 1073771776) (dm 31 255) (hK := ?_)) | ((with_reducible show RD _ _ _ _ _ _ _ (dm 31 255) _ _); refine RD.tk 8 (dm 31 1073771520) (dm 31 511) (hK := ?_)) | ((with_reducible show RD _ _ _ _ _ _ _ (dm 31 511) _ _); refine RD.tk 9 (dm 31 1073771520) (dm 31 1023) (hK := ?_)) | ((with_reducible show RD _ _ _ _ _ _ _ (dm 31 1023) _ _); refine RD.tk 10 (dm 31 1073770496) (dm 31 2047) (hK := ?_)) | ((with_reducible show RD _ _ _ _ _ _ _ (dm 31 2047) _ _); refine RD.tk 11 (dm 31 1073770496) (dm 31 4095) (hK := ?_)) | ((with_reducible show RD _ _ _ _ _ _ _ (dm 31 4095) _ _); refine RD.tk 12 (dm 31 1073766400) (dm 31 8191) (hK := ?_)) | ((with_reducible show RD _ _ _ _ _ _ _ (dm 31 8191) _ _); refine RD.tk 13 (dm 31 1073758208) (dm 31 16383) (hK := ?_)) | ((with_reducible show RD _ _ _ _ _ _ _ (dm 31 16383) _ _); refine RD.tk 14 (dm 31 1073741824) (dm 31 32767) (hK := ?_)) | ((with_reducible show RD _ _ _ _ _ _ _ (dm 31 32767) _ _); refine RD.tk 15 (dm 31 1879048192) (dm 31 65535) (hK := ?_)) | ((with_reducible show RD _ _ _ _ _ _ _ (dm 31 65535) _ _); refine RD.tk 16 (dm 31 2013528064) (dm 31 131071) (hK := ?_)) | ((with_reducible show RD _ _ _ _ _ _ _ (dm 31 131071) _ _); refine RD.tk 17 (dm 31 2013528064) (dm 31 262143) (hK := ?_)) | ((with_reducible show RD _ _ _ _ _ _ _ (dm 31 262143) _ _); refine RD.tk 18 (dm 31 2013265920) (dm 31 524287) (hK := ?_)) | ((with_reducible show RD _ _ _ _ _ _ _ (dm 31 524287) _ _); refine RD.tk 19 (dm 31 2113929216) (dm 31 1048575) (hK := ?_)) | ((with_reducible show RD _ _ _ _ _ _ _ (dm 31 1048575) _ _); refine RD.tk 20 (dm 31 2134900736) (dm 31 2097151) (hK := ?_)) | ((with_reducible show RD _ _ _ _ _ _ _ (dm 31 2097151) _ _); refine RD.tk 21 (dm 31 2134900736) (dm 31 4194303) (hK := ?_)) | ((with_reducible show RD _ _ _ _ _ _ _ (dm 31 4194303) _ _); refine RD.tk 22 (dm 31 2130706432) (dm 31 8388607) (hK := ?_)) | ((with_reducible show RD _ _ _ _ _ _ _ (dm 31 8388607) _ _); refine RD.tk 23 (dm 31 2130706432) (dm 31 16777215) (hK := ?_)) | ((with_reducible show RD _ _ _ _ _ _ _ (dm 31 16777215) _ _); refine RD.tk 24 (dm 31 2113929216) (dm 31 33554431) (hK := ?_)) | ((with_reducible show RD _ _ _ _ _ _ _ (dm 31 33554431) _ _); refine RD.tk 25 (dm 31 2080374784) (dm 31 67108863) (hK := ?_)) | ((with_reducible show RD _ _ _ _ _ _ _ (dm 31 67108863) _ _); refine RD.tk 26 (dm 31 2013265920) (dm 31 134217727) (hK := ?_)) | ((with_reducible show RD _ _ _ _ _ _ _ (dm 31 134217727) _ _); refine RD.tk 27 (dm 31 1879048192) (dm 31 268435455) (hK := ?_)) | ((with_reducible show RD _ _ _ _ _ _ _ (dm 31 268435455) _ _); refine RD.tk 28 (dm 31 1610612736) (dm 31 536870911) (hK := ?_)) | ((with_reducible show RD _ _ _ _ _ _ _ (dm 31 536870911) _ _); refine RD.tk 29 (dm 31 1073741824) (dm 31 1073741823) (hK := ?_)) | ((with_reducible show RD _ _ _ _ _ _ _ (dm 31 1073741823) _ _); refine RD.tk 30 (dm 31 0) (dm 31 2147483647) (hK := ?_)) | ((with_reducible show RD _ _ _ _ _ _ 0 _ _ _); refine RD.done (by kernel_rfl) ?_)) | ((with_reducible show RH _ _ _ _ _ _ _ _); refine RH.val (hK := ?_)) | (with_reducible first | refine Run.seq ?_ | refine Run.region ?_ | refine Run.block ?_ | refine Run.skip ?_ | refine Run.exit ?_ | refine Run.ret ?_) | (with_reducible show Run _ _ (.cond _ _ _) _ _ _; refine Run.condD rfl (fun h => ?_) (fun h => ?_)) | (with_reducible first | refine seqN (K := Run _ _ _ _) ?_ | refine seqE ?_ | refine seqR ?_ | refine blockN ?_ | refine blockR ?_ | refine blockE ?_))
        all_goals first
          | (exfalso; omega)
          | (have hne : ¬ (t[(t[x * N + y]'l1 * (N : Int) + (z : Int)).toNat]'l2 = t[((x : Int) * (N : Int) + t[y * N + z]'l3).toNat]'l4) := by assumption
             rw [v2, v4] at hne
             refine ⟨eA, _, [], resA, .ch .nil, ?_⟩
             exact ⟨by rw [asB, rng_false (asX N t) x N h9 (rng_false (asY N t x) y N h8 (rng_false (asZ N t x y) z N h7 (decide_eq_false hne)))]; rfl, rfl⟩)
          | (have he : t[(t[x * N + y]'l1 * (N : Int) + (z : Int)).toNat]'l2 = t[((x : Int) * (N : Int) + t[y * N + z]'l3).toNat]'l4 := by first | assumption | exact Decidable.not_not.1 (by assumption)
             rw [v2, v4] at he
             with_reducible refine seqN ?_
             exact ⟨z + 1, ⟨by omega, rng_step hallz (decide_eq_true he)⟩, by omega, Ent.of slA .refl⟩)
      · subst h7
        repeat' (first | (with_reducible refine RL.done ?_) | (with_reducible refine RL.wanted ?_ ?_; exact rfl) | ((with_reducible show RH _ _ _ _ _ _ _ _); refine RH.val (hK := ?_)) | (with_reducible first | refine Run.seq ?_ | refine Run.region ?_ | refine Run.block ?_ | refine Run.skip ?_ | refine Run.exit ?_) | (with_reducible show Run _ _ (.cond _ _ _) _ _ _; refine Run.condD rfl (fun h => ?_) (fun h => ?_)) | (with_reducible first | refine seqN (K := Run _ _ _ _) ?_ | refine seqE ?_ | refine blockN ?_ | refine blockE ?_))
        all_goals first
          | (exfalso; omega)
          | (with_reducible refine seqN ?_
             exact ⟨y + 1, ⟨by omega, rng_step hally hallz⟩, by omega, Ent.of slA .refl⟩)
    · subst h8
      repeat' (first | (with_reducible refine RL.done ?_) | (with_reducible refine RL.wanted ?_ ?_; exact rfl) | ((with_reducible show RH _ _ _ _ _ _ _ _); refine RH.val (hK := ?_)) | (with_reducible first | refine Run.seq ?_ | refine Run.region ?_ | refine Run.block ?_ | refine Run.skip ?_ | refine Run.exit ?_) | (with_reducible show Run _ _ (.cond _ _ _) _ _ _; refine Run.condD rfl (fun h => ?_) (fun h => ?_)) | (with_reducible first | refine seqN (K := Run _ _ _ _) ?_ | refine seqE ?_ | refine blockN ?_ | refine blockE ?_))
      all_goals first
        | (exfalso; omega)
        | (with_reducible refine seqN ?_
           exact ⟨x + 1, ⟨by omega, rng_step hall hally⟩, by omega, Ent.of slA .refl⟩)
  · subst h9
    repeat' (first | (with_reducible refine RL.done ?_) | (with_reducible refine RL.wanted ?_ ?_; exact rfl) | ((with_reducible show RH _ _ _ _ _ _ _ _); refine RH.val (hK := ?_)) | (with_reducible first | refine Run.seq ?_ | refine Run.region ?_ | refine Run.block ?_ | refine Run.skip ?_ | refine Run.exit ?_ | refine Run.ret ?_) | (with_reducible show Run _ _ (.cond _ _ _) _ _ _; refine Run.condD rfl (fun h => ?_) (fun h => ?_)) | (with_reducible first | refine seqN (K := Run _ _ _ _) ?_ | refine seqE ?_ | refine blockE ?_))
    all_goals first
      | (exfalso; omega)
      | (refine ⟨eA, _, [], resA, .ch .nil, ?_⟩
         exact ⟨by rw [asB, hall]; rfl, rfl⟩)
end Go.Proofs.Ytejeeokjjbiadaa
