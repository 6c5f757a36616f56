/- Semilattice term operations: impl.isSemilattice, SemilatticeTerms, spec.SemilatticeTerms: the same answer. Proved for this program; conditions: lengths below 2^62. -/
import Derived.Test.YtejeeokjjbiadaaSemS
import Derived.Test.YtejeeokjjbiadaaTermFns
namespace Go.Proofs.Ytejeeokjjbiadaa
open Go Go.Proofs
set_option linter.unusedVariables false
/-- an operation that stands alone in a literal, its table beside it, is lent -/
theorem Spec.lendOp {P : Program} {f : FuncId} {z w : Int} {v : Sv} {t : List Int} {b : Nat} {q : VP} {R : VP → List HP → Prop} (h : Spec P f [vagg [vint z, vsl 2 (fun y : Int × (List Int) => [vint y.1, vsl 1 (fun x : Int => [vint x]) y.2]) ([(w, t)])], q] [] R) (hR : ∀ r H, R r H → NF r ∧ NFHs H) :
    Spec P f [vagg [vint z, vsb b 1 1], q] [harr b 2 (List.map vlit) [[.int .i64 w, vsv v]] (1 * 2), hsl tInt (vsv v) t] (fun r S' => ∃ H, R r H ∧ S' = H ++ [harr b 2 (List.map vlit) [[.int .i64 w, vsv v]] (1 * 2), hsl tInt (vsv v) t]) := by
  have h2 := Spec.lend (ps := [vagg [vint z, vsb b 1 1], q]) (B := [harr b 2 (List.map vlit) [[.int .i64 w, vsv v]] (1 * 2), hsl tInt (vsv v) t]) (S := []) h ?_ hR
  · rw [List.append_nil] at h2; exact h2
  intro c vs fs ha hB hF
  cases ha with
  | cons h1 ha =>
    refine .cons ?_ ha
    obtain ⟨us, rfl, h3⟩ := h1
    cases h3 with
    | cons h4 h5 =>
      cases h5 with
      | cons h6 h7 =>
        cases h7
        refine ⟨_, rfl, .cons h4 (.cons ?_ .nil)⟩
        cases hB with
        | cons k1 hB =>
          cases hB with
          | cons k2 hB =>
            cases hB
            obtain ⟨rfl, ⟨arr, tt, hb, hsz, hfit⟩, hE⟩ := k1
            have hrow := ownS.frz (r := fun x : Int => [vint x]) k2 (fun x hx => hF x (by simp only [List.flatten_cons, List.mem_append]; exact .inr (.inl hx)))
            have h9 := h6
            cases h9
            refine ⟨_, 1, 1, rfl, rfl, .inr ⟨b, 0, rfl, hF b (by simp), Nat.le_refl _, fun i x hx => ⟨rfl, fun j p hp => ?_⟩⟩⟩
            have hi : i = 0 := by
              have := (List.getElem?_eq_some_iff.1 hx).1
              simpa using this
            subst hi
            cases hx
            obtain ⟨_, h8⟩ := hE 0 _ rfl
            match j, hp with
            | 0, hp => cases hp; exact h8 0 _ rfl
            | 1, hp =>
              cases hp
              obtain ⟨u, h9, h10⟩ := h8 1 _ rfl
              cases h10
              exact ⟨_, h9, hrow⟩
            | j + 2, hp => simp at hp
theorem opsLen_one {t : List Int} (h : t.length ≤ 4611686018427387904) : OpsLen [(2, t)] := fun f hf => by
  rw [List.mem_singleton.1 hf]; exact h
set_option maxRecDepth 10000 in
set_option maxHeartbeats 1000000 in
theorem isSemilattice_c (N : Nat) (h1 : 1 ≤ N) (h8 : N ≤ 8) (t : List Int) (ho : opB (N : Int) 2 t = true) :
    Spec Try.prog 110 [vint (N : Int), vsl 1 (fun x : Int => [vint x]) t] [] (fun r S' => r = vbool (semB N t) ∧ S' = []) := by
  have hb := bin_one h1 h8 ho
  have hN2 : N * N ≤ 8 * 8 := Nat.mul_le_mul h8 h8
  have hL := opsLen_one (t := t) (by rw [hb.len]; omega)
  have hI : Spec Try.prog 168 [vagg [vint (N : Int), vsl 2 (fun y : Int × (List Int) => [vint y.1, vsl 1 (fun x : Int => [vint x]) y.2]) ([(2, t)])], vint 0] [] (fun r S' => r = vtup [vbool (idB N t), vbool true] ∧ S' = []) := implIdem_c N [(2, t)] 0 t hb (by simp) hL
  have hC : Spec Try.prog 169 [vagg [vint (N : Int), vsl 2 (fun y : Int × (List Int) => [vint y.1, vsl 1 (fun x : Int => [vint x]) y.2]) ([(2, t)])], vint 0] [] (fun r S' => r = vtup [vbool (comB N t), vbool true] ∧ S' = []) := implComm_c N [(2, t)] 0 t hb (by simp) hL
  have hA : Spec Try.prog 170 [vagg [vint (N : Int), vsl 2 (fun y : Int × (List Int) => [vint y.1, vsl 1 (fun x : Int => [vint x]) y.2]) ([(2, t)])], vint 0] [] (fun r S' => r = vtup [vbool (asB N t), vbool true] ∧ S' = []) := implAssoc_c N [(2, t)] 0 t hb (by simp) hL
  refine Spec.of_run2 (n := 39) Try.func110 rfl Try.results110 Try.ntmps110 rfl ?_
  repeat' (first | (with_reducible first | refine RL.done ?_ | refine RL.app0 ?_) | (with_reducible refine RL.wanted ?_ ?_; exact rfl) | ((with_reducible show RH _ _ _ ⟨some 15, .buildSlice _ _ _, _, _, _, _⟩ _ _ _ _); refine RH.eff rfl rfl (EOpS.e (EOpS.slit (fun y : Int × List Int => [vint y.1, vsl 1 (fun x : Int => [vint x]) y.2]) [(2, t)] (fun _ _ => rfl) (.cons rfl CellsOf.agg .nil) rfl rfl)) ?_; rintro _ _ ⟨b15, rfl, rfl⟩; refine RL.frzA (len := 1) (cap := 1) rfl ?_) | ((with_reducible show RH _ _ _ ⟨some 5, .alloc _, _, _, _, _⟩ _ _ _ _); refine RH.alloc rfl ?_; rintro _ _ ⟨b5, rfl, rfl⟩) | ((with_reducible show RH _ _ _ ⟨_, .call ⟨.value (.func 168), _, _⟩, _, _, _, _⟩ _ _ _ _); refine RH.cP Try.call168 ?_; refine ⟨_, hI, ?_⟩; rintro _ _ ⟨rfl, rfl⟩) | ((with_reducible show RH _ _ _ ⟨_, .call ⟨.value (.func 169), _, _⟩, _, _, _, _⟩ _ _ _ _); refine RH.cP Try.call169 ?_; refine ⟨_, hC, ?_⟩; rintro _ _ ⟨rfl, rfl⟩) | ((with_reducible show RH _ _ _ ⟨_, .call ⟨.value (.func 170), _, _⟩, _, _, _, _⟩ _ _ _ _); refine RH.cP Try.call170 ?_; refine ⟨_, hA, ?_⟩; rintro _ _ ⟨rfl, rfl⟩) | ((with_reducible show RH _ _ _ _ _ _ _ _); first | refine RH.val (hK := ?_) | refine RH.upd (hK := ?_)) | (with_reducible show RL _ _ _ (_ :: _) _ _ _; first | refine RL.guardYes rfl rfl rfl rfl ?_ | refine RL.guardNoS rfl rfl rfl rfl rfl rfl ?_ | refine RL.split rfl rfl rfl (fun h => ?_) (fun h => ?_)) | (with_reducible first | refine Run.seq ?_ | refine Run.region ?_ | refine Run.ret ?_) | (with_reducible refine seqN (K := Run _ _ _ _) ?_))
  all_goals (refine ⟨eA, _, [], resA, .ch .nil, ?_⟩
             exact ⟨congrArg vbool (by simp_all [semB]), rfl⟩)
/-- the semilattice operations among the term functions -/
def semV (n : Int) (os : List (Int × List Int)) : Option (List (List Int)) := if n ≤ 4 then (cloneV n os 2).map fun c => c.1.filter (semB n.toNat) else none
abbrev SemRes (o : Option (List (List Int))) (r : VP) (S' : List HP) : Prop := ∃ s : Sv, r = vtup [vlit (vsv s), vbool o.isSome] ∧ S' = [hsl (tPair tInt (tS tInt)) (vsv s) (opsL 2 (o.getD []))]
theorem fil_yes {f : List Int → Bool} {xs : List (List Int)} {m : Nat} (h : m < xs.length) (hf : f xs[m] = true) : (xs.take (m + 1)).filter f = (xs.take m).filter f ++ [xs[m]] := by
  rw [List.take_add_one, List.getElem?_eq_getElem h, List.filter_append, Option.toList_some, List.filter_cons_of_pos hf]; rfl
theorem fil_no {f : List Int → Bool} {xs : List (List Int)} {m : Nat} (h : m < xs.length) (hf : ¬ f xs[m] = true) : (xs.take (m + 1)).filter f = (xs.take m).filter f := by
  rw [List.take_add_one, List.getElem?_eq_getElem h, List.filter_append, Option.toList_some, List.filter_cons_of_neg hf, List.filter_nil, List.append_nil]
theorem fil_le (f : List Int → Bool) (xs : List (List Int)) (m : Nat) : ((xs.take m).filter f).length ≤ xs.length := Nat.le_trans (List.length_filter_le _ _) (by rw [List.length_take]; omega)
theorem clone_ops {n : Int} {os : List (Int × List Int)} {c : CS} (h : cloneV n os 2 = some c) : algB n os = true ∧ c.1.length ≤ 60 ∧ ∀ t ∈ c.1, opB n 2 t = true ∧ t.length ≤ 27 := by
  obtain ⟨sz, hci, hc60, h27, hn8, hn1, ha, hr, hs⟩ := cloneV_inv h
  refine ⟨ha, hc60, fun t ht => ?_⟩
  obtain ⟨h1, h2⟩ := hci.row t ht
  refine ⟨?_, by omega⟩
  simp only [opB, Bool.and_eq_true, decide_eq_true_eq]
  refine ⟨by omega, ?_, h2⟩
  rw [h1]; exact hs
set_option maxRecDepth 10000 in
set_option maxHeartbeats 2000000 in
theorem implSem_c (n : Int) (os : List (Int × List Int)) (hl : os.length ≤ 4611686018427387904) (ho : OpsLen os) :
    Spec Try.prog 47 [vagg [vint n, vsl 2 (fun y : Int × (List Int) => [vint y.1, vsl 1 (fun x : Int => [vint x]) y.2]) os]] [] (SemRes (semV n os)) := by
  have hA := isAlgebra_c n os hl ho
  have hT := termFunctions_c n os 2 hl ho
  by_cases h4 : n ≤ 4
  · cases ha : algB n os with
    | false =>
      have e : semV n os = none := by rw [semV, if_pos h4]; simp [cloneV, ha]
      rw [ha] at hA
      rw [e]
      refine Spec.of_run2 (n := 47) Try.func47 rfl Try.results47 Try.ntmps47 rfl ?_
      repeat' (first | (with_reducible first | refine RL.done ?_ | refine RL.app0 ?_) | (with_reducible refine RL.wanted ?_ ?_; exact rfl) | ((with_reducible show RH _ _ _ ⟨some 1, .box _ _, _, _, _, _⟩ _ _ _ _); (refine RH.boxAgg rfl rfl ?_; rintro _ _ ⟨b1, rfl, rfl⟩)) | ((with_reducible show RH _ _ _ ⟨some 17, .buildSlice _ _ _, _, _, _, _⟩ _ _ _ _); refine RH.eff rfl rfl (EOpS.e (EOpS.slitV (by repeat (first | exact Elts.nil | apply Elts.one1 rfl | apply Elts.agg2 rfl)) (by simp) rfl rfl)) ?_; rintro _ _ ⟨b17, rfl, rfl⟩) | ((with_reducible show RH _ _ _ ⟨_, .call ⟨.value (.func 96), _, _⟩, _, _, _, _⟩ _ _ _ _); refine RH.cP Try.call96 ?_; refine ⟨_, hA, ?_⟩; rintro _ _ ⟨rfl, rfl⟩) | ((with_reducible show RH _ _ _ _ _ _ _ _); refine RH.val (hK := ?_)) | (with_reducible show RL _ _ _ (_ :: _) _ _ _; refine RL.guardNoS rfl rfl rfl rfl rfl rfl ?_) | (with_reducible first | refine Run.seq ?_ | refine Run.region ?_ | refine Run.ret ?_) | (with_reducible show Run _ _ (.cond _ _ _) _ _ _; refine Run.condT rfl ?_) | (with_reducible first | refine seqN (K := Run _ _ _ _) ?_ | refine seqR ?_))
      all_goals first
        | (refine ⟨eA, _, [hsl (tPair tInt (tS tInt)) (vsv (some ⟨b17, 0, none⟩, 0, 0)) []], resA, ?_, ?_⟩
           · exact (SEnt.packNil (tPair tInt (tS tInt)) rfl).trans (SEnt.ch (.cons .head rfl .nil))
           · exact ⟨_, rfl, rfl⟩)
        | (exfalso; simp_all; done)
    | true =>
      rw [ha] at hA
      obtain ⟨h1, h8, _, _⟩ := algB_at ha
      cases ho2 : cloneV n os 2 with
      | none =>
        have e : semV n os = none := by rw [semV, if_pos h4, ho2]; rfl
        rw [ho2] at hT
        rw [e]
        refine Spec.of_run2 (n := 47) Try.func47 rfl Try.results47 Try.ntmps47 rfl ?_
        repeat' (first | (with_reducible first | refine RL.done ?_ | refine RL.app0 ?_) | (with_reducible refine RL.wanted ?_ ?_; exact rfl) | ((with_reducible show RH _ _ _ ⟨some 1, .box _ _, _, _, _, _⟩ _ _ _ _); (refine RH.boxAgg rfl rfl ?_; rintro _ _ ⟨b1, rfl, rfl⟩)) | ((with_reducible show RH _ _ _ ⟨some 17, .buildSlice _ _ _, _, _, _, _⟩ _ _ _ _); refine RH.eff rfl rfl (EOpS.e (EOpS.slitV (by repeat (first | exact Elts.nil | apply Elts.one1 rfl | apply Elts.agg2 rfl)) (by simp) rfl rfl)) ?_; rintro _ _ ⟨b17, rfl, rfl⟩) | ((with_reducible show RH _ _ _ ⟨some 25, .buildSlice _ _ _, _, _, _, _⟩ _ _ _ _); refine RH.eff rfl rfl (EOpS.e (EOpS.slitV (by repeat (first | exact Elts.nil | apply Elts.one1 rfl | apply Elts.agg2 rfl)) (by simp) rfl rfl)) ?_; rintro _ _ ⟨b25, rfl, rfl⟩) | ((with_reducible show RH _ _ _ ⟨_, .call ⟨.value (.func 96), _, _⟩, _, _, _, _⟩ _ _ _ _); refine RH.cP Try.call96 ?_; refine ⟨_, hA, ?_⟩; rintro _ _ ⟨rfl, rfl⟩) | ((with_reducible show RH _ _ _ ⟨_, .call ⟨.value (.func 109), _, _⟩, _, _, _, _⟩ _ _ _ _); refine RH.cP Try.call109 ?_; refine ⟨_, hT, ?_⟩; rintro _ _ ⟨rfl, rfl⟩) | ((with_reducible show RH _ _ _ _ _ _ _ _); refine RH.val (hK := ?_)) | (with_reducible show RL _ _ _ (_ :: _) _ _ _; refine RL.guardYes rfl rfl rfl rfl ?_) | (with_reducible first | refine Run.seq ?_ | refine Run.region ?_ | refine Run.skip ?_ | refine Run.ret ?_) | (with_reducible show Run _ _ (.cond _ _ _) _ _ _; first | refine Run.condT rfl ?_ | refine Run.condD rfl (fun h => ?_) (fun h => ?_)) | (with_reducible first | refine seqN (K := Run _ _ _ _) ?_ | refine seqR ?_))
        all_goals first
          | (exfalso; omega)
          | (refine ⟨eA, _, [hsl (tPair tInt (tS tInt)) (vsv (some ⟨b25, 0, none⟩, 0, 0)) []], resA, ?_, ?_⟩
             · exact (SEnt.packNil (tPair tInt (tS tInt)) rfl).trans (SEnt.ch (.cons .head rfl .nil))
             · exact ⟨_, rfl, rfl⟩)
          | (exfalso; simp_all; done)
      | some c =>
        obtain ⟨_, hc60, hop⟩ := clone_ops ho2
        obtain ⟨N, rfl⟩ : ∃ N : Nat, n = N := ⟨n.toNat, by omega⟩
        have h1 : 1 ≤ N := by omega
        have h8 : N ≤ 8 := by omega
        have e : semV (N : Int) os = some (c.1.filter (semB N)) := by rw [semV, if_pos h4, ho2]; rfl
        have hrow : ∀ t ∈ c.1.filter (semB N), t.length ≤ 4398046511104 := fun t ht => by have := (hop t (List.mem_filter.1 ht).1).2; omega
        have hfl := List.length_filter_le (semB N) c.1
        rw [ho2] at hT
        rw [e]
        refine Spec.of_run2 (n := 47) Try.func47 rfl Try.results47 Try.ntmps47 rfl ?_
        repeat' (first | (with_reducible first | refine RL.done ?_ | refine RL.app0 ?_ | refine RL.app4 ?_) | (with_reducible refine RL.wanted ?_ ?_; exact rfl) | ((with_reducible show RH _ _ _ ⟨some 1, .box _ _, _, _, _, _⟩ _ _ _ _); (refine RH.boxAgg rfl rfl ?_; rintro _ _ ⟨b1, rfl, rfl⟩)) | ((with_reducible show RH _ _ _ ⟨some 17, .buildSlice _ _ _, _, _, _, _⟩ _ _ _ _); refine RH.eff rfl rfl (EOpS.e (EOpS.slitV (by repeat (first | exact Elts.nil | apply Elts.one1 rfl | apply Elts.agg2 rfl)) (by simp) rfl rfl)) ?_; rintro _ _ ⟨b17, rfl, rfl⟩) | ((with_reducible show RH _ _ _ ⟨some 26, .buildSlice _ _ _, _, _, _, _⟩ _ _ _ _); (refine RH.eff rfl rfl (EOpS.e (EOpS.slitV (by ((repeat (first | exact Elts.nil | apply Elts.one1 rfl | apply Elts.agg2 rfl)); done)) (by simp) rfl rfl)) ?_; rintro _ _ ⟨b26, rfl, rfl⟩)) | ((with_reducible show RH _ _ _ ⟨_, .call ⟨.value (.func 96), _, _⟩, _, _, _, _⟩ _ _ _ _); refine RH.cP Try.call96 ?_; refine ⟨_, hA, ?_⟩; rintro _ _ ⟨rfl, rfl⟩) | ((with_reducible show RH _ _ _ ⟨_, .call ⟨.value (.func 109), _, _⟩, _, _, _, _⟩ _ _ _ _); refine RH.cP Try.call109 ?_; refine ⟨_, hT, ?_⟩; rintro _ _ ⟨bc, bm, s1, s2, rfl, rfl⟩) | ((with_reducible show RH _ _ _ _ _ _ _ _); refine RH.val (hK := ?_)) | (with_reducible show RL _ _ _ (_ :: _) _ _ _; refine RL.guardYes rfl rfl rfl rfl ?_) | (with_reducible first | refine Run.seq ?_ | refine Run.region ?_ | refine Run.block ?_ | refine Run.skip ?_ | refine Run.ret ?_) | (with_reducible show Run _ _ (.cond _ _ _) _ _ _; first | refine Run.condF rfl ?_ | refine Run.condD rfl (fun h => ?_) (fun h => ?_)) | (with_reducible first | refine seqN (K := Run _ _ _ _) ?_ | refine seqR ?_))
        all_goals first
          | (exfalso; omega)
          | (exfalso; simp_all; done)
          | skip
        refine Run.sent (T := [hsl tRow (vsv (some ⟨b26, 0, none⟩, 0, 0)) [], hcells bc [vlit (vsv s1), vlit (vsv s2), vmap bm], hsl tRow (vsv s1) c.1, hcells b1 [vint (N : Int), vsl 2 (fun y : Int × (List Int) => [vint y.1, vsl 1 (fun x : Int => [vint x]) y.2]) os]]) ((SEnt.packNil tRow rfl).trans (SEnt.ch (by repeat (first | exact Ch.nil | refine Ch.same (by repeat (first | exact Rem.head | apply Rem.tail)) ?_)))) ?_
        refine Run.loop (α := Nat × Sv) (fun z => [(1, vptr b1 0), (6, vlit (vsv z.2)), (30, vlit (vsv s1)), (31, vint (c.1.length : Int)), (32, vint (z.1 : Int))])
          (fun z => [hsl tRow (vsv z.2) ((c.1.take z.1).filter (semB N)), hsl tRow (vsv s1) c.1, hcells b1 [vint (N : Int), vsl 2 (fun y : Int × (List Int) => [vint y.1, vsl 1 (fun x : Int => [vint x]) y.2]) os]]) (fun z => z.1 ≤ c.1.length) (fun z => c.1.length - z.1) (0, (some ⟨b26, 0, none⟩, 0, 0)) (Nat.zero_le _) (Ent.of slA (.cons .head rfl chA)) ?_
        rintro ⟨m, s⟩ hm
        dsimp only at hm ⊢
        have hle := fil_le (semB N) c.1 m
        rcases Nat.lt_or_eq_of_le hm with h9 | h9
        · repeat' (first | (with_reducible first | refine RL.done ?_ | refine RL.app0 ?_) | (with_reducible refine RL.wanted ?_ ?_; exact rfl) | ((with_reducible show RH _ _ _ ⟨some 42, .buildSlice _ _ _, _, _, _, _⟩ _ _ _ _); (refine RH.eff rfl rfl (EOpS.e (EOpS.slit (fun t : List Int => [vsl 1 (fun x : Int => [vint x]) t]) _ (fun _ _ => rfl) (by ((repeat (first | exact Elts.nil | (apply Elts.cons; exact rfl; exact CellsOf.one))); done)) rfl rfl)) ?_; rintro _ _ ⟨b42, rfl, rfl⟩)) | ((with_reducible show RH _ _ _ ⟨_, .call ⟨.value (.func 110), _, _⟩, _, _, _, _⟩ _ _ _ _); refine RH.cP Try.call110 ?_; refine ⟨_, isSemilattice_c N h1 h8 c.1[m] (hop _ (List.getElem_mem _)).1, ?_⟩; rintro _ _ ⟨rfl, rfl⟩) | ((with_reducible show RH _ _ _ ⟨_, .call ⟨.builtin .append, _, _⟩, _, _, _, _⟩ _ _ _ _); (refine RH.appF rfl rfl rfl (by repeat (first | exact Pick.nil | (apply Pick.cons; (with_reducible repeat (first | exact Rem.head | apply Rem.tail))))) (by first | omega | (simp; omega)) (by first | omega | (simp; omega)) ?_); rintro _ _ ⟨s, rfl, rfl⟩) | ((with_reducible show RH _ _ _ _ _ _ _ _); refine RH.val (hK := ?_)) | (with_reducible first | refine Run.seq ?_ | refine Run.region ?_ | refine Run.block ?_ | refine Run.skip ?_ | refine Run.exit ?_) | (with_reducible show Run _ _ (.cond _ _ _) _ _ _; first | refine Run.condD rfl (fun h => ?_) (fun h => ?_) | refine Run.cond rfl (fun h => ?_) (fun h => ?_)) | (with_reducible first | refine seqN (K := Run _ _ _ _) ?_ | refine seqE ?_ | refine blockN ?_ | refine blockE ?_))
          all_goals first
            | (exfalso; omega)
            | (have hd := fil_yes h9 (show semB N c.1[m] = true by assumption)
               with_reducible refine seqN ?_
               exact ⟨(m + 1, _), by dsimp only; omega, by dsimp only; omega, Ent.of (by dsimp only; exact slA) (by dsimp only; rw [hd]; exact chA)⟩)
            | (have hd := fil_no h9 (show ¬ semB N c.1[m] = true by first | assumption | (simp only [Bool.not_eq_true]; assumption))
               with_reducible refine seqN ?_
               exact ⟨(m + 1, s), by dsimp only; omega, by dsimp only; omega, Ent.of (by dsimp only; exact slA) (by dsimp only; rw [hd]; exact chA)⟩)
        · subst h9
          rw [List.take_length]
          repeat' (first | (with_reducible refine RL.done ?_) | (with_reducible refine RL.wanted ?_ ?_; exact rfl) | ((with_reducible show RH _ _ _ ⟨_, .call ⟨.value (.func 111), _, _⟩, _, _, _, _⟩ _ _ _ _); refine RH.cL Try.call111 ?_; apply Exists.intro; apply And.intro; (focus ((repeat (first | exact LVs.nil | (apply LVs.sl; (with_reducible repeat (first | exact Has.head | apply Has.tail)); exact inferInstance; exact rfl) | apply LVs.refl)); done)); refine ⟨_, opsOf_c _ (c.1.filter (semB N)) (by omega) hrow, (by intro r H h; first | (obtain ⟨rfl, rfl⟩ := h; exact ⟨inferInstance, inferInstance⟩) | (obtain ⟨_, rfl, rfl⟩ := h; exact ⟨inferInstance, inferInstance⟩) | (obtain ⟨_, _, rfl, rfl⟩ := h; exact ⟨inferInstance, inferInstance⟩) | (obtain ⟨_, _, rfl, rfl, _⟩ := h; exact ⟨inferInstance, inferInstance⟩)), ?_⟩; rintro _ _ ⟨s5, rfl, rfl⟩; refine RL.nm ?_) | ((with_reducible show RH _ _ _ _ _ _ _ _); refine RH.val (hK := ?_)) | (with_reducible first | refine Run.seq ?_ | refine Run.region ?_ | refine Run.block ?_ | refine Run.skip ?_ | refine Run.exit ?_ | refine Run.ret ?_) | (with_reducible show Run _ _ (.cond _ _ _) _ _ _; refine Run.condD rfl (fun h => ?_) (fun h => ?_)) | (with_reducible first | refine seqN (K := Run _ _ _ _) ?_ | refine seqE ?_ | refine blockE ?_))
          all_goals first
            | (exfalso; omega)
            | (refine ⟨eA, _, [hsl (tPair tInt (tS tInt)) (vsv s5) (opsL 2 (c.1.filter (semB N)))], resA, ?_, ?_⟩
               · exact SEnt.ch chA
               · exact ⟨s5, rfl, rfl⟩)
  · have e : semV n os = none := by rw [semV, if_neg h4]
    rw [e]
    refine Spec.of_run2 (n := 47) Try.func47 rfl Try.results47 Try.ntmps47 rfl ?_
    repeat' (first | (with_reducible first | refine RL.done ?_ | refine RL.app0 ?_) | (with_reducible refine RL.wanted ?_ ?_; exact rfl) | ((with_reducible show RH _ _ _ ⟨some 1, .box _ _, _, _, _, _⟩ _ _ _ _); (refine RH.boxAgg rfl rfl ?_; rintro _ _ ⟨b1, rfl, rfl⟩)) | ((with_reducible show RH _ _ _ ⟨some 17, .buildSlice _ _ _, _, _, _, _⟩ _ _ _ _); refine RH.eff rfl rfl (EOpS.e (EOpS.slitV (by repeat (first | exact Elts.nil | apply Elts.one1 rfl | apply Elts.agg2 rfl)) (by simp) rfl rfl)) ?_; rintro _ _ ⟨b17, rfl, rfl⟩) | ((with_reducible show RH _ _ _ ⟨_, .call ⟨.value (.func 96), _, _⟩, _, _, _, _⟩ _ _ _ _); refine RH.cP Try.call96 ?_; refine ⟨_, hA, ?_⟩; rintro _ _ ⟨rfl, rfl⟩) | ((with_reducible show RH _ _ _ _ _ _ _ _); refine RH.val (hK := ?_)) | (with_reducible show RL _ _ _ (_ :: _) _ _ _; first | refine RL.guardYes rfl rfl rfl rfl ?_ | refine RL.guardNoS rfl rfl rfl rfl rfl rfl ?_ | refine RL.splitNB rfl rfl rfl (fun h => ?_) (fun h => ?_)) | (with_reducible first | refine Run.seq ?_ | refine Run.region ?_ | refine Run.skip ?_ | refine Run.ret ?_) | (with_reducible show Run _ _ (.cond _ _ _) _ _ _; first | refine Run.condT rfl ?_ | refine Run.condD rfl (fun h => ?_) (fun h => ?_)) | (with_reducible first | refine seqN (K := Run _ _ _ _) ?_ | refine seqR ?_))
    all_goals first
      | (refine ⟨eA, _, [hsl (tPair tInt (tS tInt)) (vsv (some ⟨b17, 0, none⟩, 0, 0)) []], resA, ?_, ?_⟩
         · exact (SEnt.packNil (tPair tInt (tS tInt)) rfl).trans (SEnt.ch (.cons .head rfl .nil))
         · exact ⟨_, rfl, rfl⟩)
      | (exfalso; omega)
set_option maxRecDepth 10000 in
set_option maxHeartbeats 4000000 in
theorem specSem_c (n : Int) (os : List (Int × List Int)) (hl : os.length ≤ 4611686018427387904) (ho : OpsLen os) :
    Spec Try.prog 46 [vagg [vint n, vsl 2 (fun y : Int × (List Int) => [vint y.1, vsl 1 (fun x : Int => [vint x]) y.2]) os]] [] (SemRes (semV n os)) := by
  have hA := l2Good_c n os hl ho
  by_cases h4 : n ≤ 4
  · cases ha : algB n os with
    | false =>
      have e : semV n os = none := by rw [semV, if_pos h4]; simp [cloneV, ha]
      rw [ha] at hA
      rw [e]
      refine Spec.of_run2 (n := 77) Try.func46 rfl Try.results46 Try.ntmps46 rfl ?_
      repeat' (first | (with_reducible first | refine RL.done ?_ | refine RL.app0 ?_) | (with_reducible refine RL.wanted ?_ ?_; exact rfl) | ((with_reducible show RH _ _ _ ⟨some 1, .box _ _, _, _, _, _⟩ _ _ _ _); (refine RH.boxAgg rfl rfl ?_; rintro _ _ ⟨b1, rfl, rfl⟩)) | ((with_reducible show RH _ _ _ ⟨some 14, .buildSlice _ _ _, _, _, _, _⟩ _ _ _ _); refine RH.eff rfl rfl (EOpS.e (EOpS.slitV (by repeat (first | exact Elts.nil | apply Elts.one1 rfl | apply Elts.agg2 rfl)) (by simp) rfl rfl)) ?_; rintro _ _ ⟨b14, rfl, rfl⟩) | ((with_reducible show RH _ _ _ ⟨_, .call ⟨.value (.func 94), _, _⟩, _, _, _, _⟩ _ _ _ _); refine RH.cP Try.call94 ?_; refine ⟨_, hA, ?_⟩; rintro _ _ ⟨rfl, rfl⟩) | ((with_reducible show RH _ _ _ _ _ _ _ _); refine RH.val (hK := ?_)) | (with_reducible show RL _ _ _ (_ :: _) _ _ _; refine RL.guardNoS rfl rfl rfl rfl rfl rfl ?_) | (with_reducible first | refine Run.seq ?_ | refine Run.region ?_ | refine Run.ret ?_) | (with_reducible show Run _ _ (.cond _ _ _) _ _ _; refine Run.condT rfl ?_) | (with_reducible first | refine seqN (K := Run _ _ _ _) ?_ | refine seqR ?_))
      all_goals first
        | (refine ⟨eA, _, [hsl (tPair tInt (tS tInt)) (vsv (some ⟨b14, 0, none⟩, 0, 0)) []], resA, ?_, ?_⟩
           · exact (SEnt.packNil (tPair tInt (tS tInt)) rfl).trans (SEnt.ch (.cons .head rfl .nil))
           · exact ⟨_, rfl, rfl⟩)
        | (exfalso; simp_all; done)
    | true =>
      rw [ha] at hA
      obtain ⟨h1, h8, _, _⟩ := algB_at ha
      have hr : rangeB n 2 = true := by
        have h2 : pw n (2 : Int).toNat = n * n := by show pw n 2 = _; simp [pw]
        have h3 : n * n ≤ 4 * 4 := Int.mul_le_mul h4 h4 (by omega) (by decide)
        simp only [rangeB, Bool.and_eq_true, decide_eq_true_eq]
        exact ⟨by decide, by rw [h2]; omega⟩
      obtain ⟨m2, size, hm2, hm1, hm3, hs, h27, hv⟩ := cloneV_at ha hr
      obtain rfl : m2 = 2 := by omega
      have hC0 := l12Clone_c n os 2 size ha hm1 hm3 hs h27
      rw [← hv] at hC0
      have hC : Spec Try.prog 105 [vagg [vint n, vsl 2 (fun y : Int × (List Int) => [vint y.1, vsl 1 (fun x : Int => [vint x]) y.2]) os], vint 2] [] (LRes (cloneV n os 2)) := hC0
      cases ho2 : cloneV n os 2 with
      | none =>
        have e : semV n os = none := by rw [semV, if_pos h4, ho2]; rfl
        rw [ho2] at hC
        rw [e]
        refine Spec.of_run2 (n := 77) Try.func46 rfl Try.results46 Try.ntmps46 rfl ?_
        repeat' (first | (with_reducible first | refine RL.done ?_ | refine RL.app0 ?_ | refine RL.app2 ?_) | (with_reducible refine RL.wanted ?_ ?_; exact rfl) | ((with_reducible show RH _ _ _ ⟨some 1, .box _ _, _, _, _, _⟩ _ _ _ _); (refine RH.boxAgg rfl rfl ?_; rintro _ _ ⟨b1, rfl, rfl⟩)) | ((with_reducible show RH _ _ _ ⟨some 14, .buildSlice _ _ _, _, _, _, _⟩ _ _ _ _); refine RH.eff rfl rfl (EOpS.e (EOpS.slitV (by repeat (first | exact Elts.nil | apply Elts.one1 rfl | apply Elts.agg2 rfl)) (by simp) rfl rfl)) ?_; rintro _ _ ⟨b14, rfl, rfl⟩) | ((with_reducible show RH _ _ _ ⟨some 5, .alloc _, _, _, _, _⟩ _ _ _ _); refine RH.alloc rfl ?_; rintro _ _ ⟨b5, rfl, rfl⟩) | ((with_reducible show RH _ _ _ ⟨_, .call ⟨.value (.func 94), _, _⟩, _, _, _, _⟩ _ _ _ _); refine RH.cP Try.call94 ?_; refine ⟨_, hA, ?_⟩; rintro _ _ ⟨rfl, rfl⟩) | ((with_reducible show RH _ _ _ ⟨_, .call ⟨.value (.func 105), _, _⟩, _, _, _, _⟩ _ _ _ _); refine RH.cP Try.call105 ?_; refine ⟨_, hC, ?_⟩; rintro _ _ ⟨u1, u2, l, c3, rfl, rfl, rfl, hsm⟩) | ((with_reducible show RH _ _ _ _ _ _ _ _); first | refine RH.val (hK := ?_) | refine RH.upd (hK := ?_)) | (with_reducible show RL _ _ _ (_ :: _) _ _ _; refine RL.guardYes rfl rfl rfl rfl ?_) | (with_reducible first | refine Run.seq ?_ | refine Run.region ?_ | refine Run.skip ?_ | refine Run.ret ?_) | (with_reducible show Run _ _ (.cond _ _ _) _ _ _; first | refine Run.condT rfl ?_ | refine Run.condD rfl (fun h => ?_) (fun h => ?_)) | (with_reducible first | refine seqN (K := Run _ _ _ _) ?_ | refine seqR ?_))
        all_goals first
          | (exfalso; omega)
          | (refine ⟨eA, _, [hsl (tPair tInt (tS tInt)) (vsv (some ⟨b14, 0, none⟩, 0, 0)) []], resA, ?_, ?_⟩
             · exact (SEnt.pick (B := [harr b14 2 (List.map vlit) [] (0 * 2)]) (by repeat (first | exact Pick.nil | (apply Pick.cons; (repeat (first | exact Rem.head | apply Rem.tail)))))).trans ((SEnt.packNil (tPair tInt (tS tInt)) rfl).trans (SEnt.ch (.cons .head rfl .nil)))
             · exact ⟨_, rfl, rfl⟩)
          | (exfalso; simp_all; done)
      | some c =>
        obtain ⟨_, hc60, hop⟩ := clone_ops ho2
        obtain ⟨N, rfl⟩ : ∃ N : Nat, n = N := ⟨n.toNat, by omega⟩
        have h1 : 1 ≤ N := by omega
        have h8 : N ≤ 8 := by omega
        have hN2 : N * N ≤ 8 * 8 := Nat.mul_le_mul h8 h8
        have e : semV (N : Int) os = some (c.1.filter (semB N)) := by rw [semV, if_pos h4, ho2]; rfl
        rw [ho2] at hC
        rw [e]
        refine Spec.of_run2 (n := 77) Try.func46 rfl Try.results46 Try.ntmps46 rfl ?_
        repeat' (first | (with_reducible first | refine RL.done ?_ | refine RL.app0 ?_ | refine RL.app2 ?_) | (with_reducible refine RL.wanted ?_ ?_; exact rfl) | ((with_reducible show RH _ _ _ ⟨some 1, .box _ _, _, _, _, _⟩ _ _ _ _); (refine RH.boxAgg rfl rfl ?_; rintro _ _ ⟨b1, rfl, rfl⟩)) | ((with_reducible show RH _ _ _ ⟨some 14, .buildSlice _ _ _, _, _, _, _⟩ _ _ _ _); refine RH.eff rfl rfl (EOpS.e (EOpS.slitV (by repeat (first | exact Elts.nil | apply Elts.one1 rfl | apply Elts.agg2 rfl)) (by simp) rfl rfl)) ?_; rintro _ _ ⟨b14, rfl, rfl⟩) | ((with_reducible show RH _ _ _ ⟨some 5, .alloc _, _, _, _, _⟩ _ _ _ _); refine RH.alloc rfl ?_; rintro _ _ ⟨b5, rfl, rfl⟩) | ((with_reducible show RH _ _ _ ⟨_, .call ⟨.value (.func 94), _, _⟩, _, _, _, _⟩ _ _ _ _); refine RH.cP Try.call94 ?_; refine ⟨_, hA, ?_⟩; rintro _ _ ⟨rfl, rfl⟩) | ((with_reducible show RH _ _ _ ⟨_, .call ⟨.value (.func 105), _, _⟩, _, _, _, _⟩ _ _ _ _); refine RH.cP Try.call105 ?_; refine ⟨_, hC, ?_⟩; rintro _ _ ⟨u1, u2, l, c3, rfl, rfl, rfl, rfl⟩) | ((with_reducible show RH _ _ _ _ _ _ _ _); first | refine RH.val (hK := ?_) | refine RH.upd (hK := ?_)) | (with_reducible show RL _ _ _ (_ :: _) _ _ _; refine RL.guardYes rfl rfl rfl rfl ?_) | (with_reducible first | refine Run.seq ?_ | refine Run.region ?_ | refine Run.block ?_ | refine Run.skip ?_ | refine Run.ret ?_) | (with_reducible show Run _ _ (.cond _ _ _) _ _ _; first | refine Run.condF rfl ?_ | refine Run.condD rfl (fun h => ?_) (fun h => ?_)) | (with_reducible first | refine seqN (K := Run _ _ _ _) ?_ | refine seqR ?_))
        all_goals first
          | (exfalso; omega)
          | (exfalso; simp_all; done)
          | skip
        refine Run.sent (T := [hsl (tPair tInt (tS tInt)) (vsv (some ⟨b14, 0, none⟩, 0, 0)) [], hsl tRow (vsv u1) c3.1, hcells b5 [vlit (vsv u1), vlit (vsv u2), vbool false], hcells b1 [vint (N : Int), vsl 2 (fun y : Int × (List Int) => [vint y.1, vsl 1 (fun x : Int => [vint x]) y.2]) os]]) ((SEnt.pick (B := [harr b14 2 (List.map vlit) [] (0 * 2)]) (by repeat (first | exact Pick.nil | (apply Pick.cons; (repeat (first | exact Rem.head | apply Rem.tail)))))).trans ((SEnt.packNil (tPair tInt (tS tInt)) rfl).trans (SEnt.ch (by repeat (first | exact Ch.nil | refine Ch.same (by repeat (first | exact Rem.head | apply Rem.tail)) ?_))))) ?_
        refine Run.loop (α := Nat × Sv) (fun z => [(1, vptr b1 0), (4, vlit (vsv z.2)), (5, vptr b5 0), (6, vint (z.1 : Int))])
          (fun z => [hsl (tPair tInt (tS tInt)) (vsv z.2) (opsL 2 ((c3.1.take z.1).filter (semB N))), hsl tRow (vsv u1) c3.1, hcells b5 [vlit (vsv u1), vlit (vsv u2), vbool false], hcells b1 [vint (N : Int), vsl 2 (fun y : Int × (List Int) => [vint y.1, vsl 1 (fun x : Int => [vint x]) y.2]) os]]) (fun z => z.1 ≤ c3.1.length) (fun z => c3.1.length - z.1) (0, (some ⟨b14, 0, none⟩, 0, 0)) (Nat.zero_le _) (Ent.of slA .refl) ?_
        rintro ⟨m, s⟩ hm
        dsimp only at hm ⊢
        have hle := fil_le (semB N) c3.1 m
        have hll := opsL_length 2 ((c3.1.take m).filter (semB N))
        rcases Nat.lt_or_eq_of_le hm with h9 | h9
        · obtain ⟨hob, hbl⟩ := hop c3.1[m] (List.getElem_mem h9)
          have hb := bin_one h1 h8 hob
          have hL := opsLen_one (t := c3.1[m]) (by rw [hb.len]; omega)
          have hown := l1Own_c c3.1[m] (by omega)
          have hI : Spec Try.prog 106 [vagg [vint (N : Int), vsl 2 (fun y : Int × (List Int) => [vint y.1, vsl 1 (fun x : Int => [vint x]) y.2]) ([(2, c3.1[m])])], vint 0] [] (fun r S' => r = vtup [vbool (idB N c3.1[m]), vbool true] ∧ S' = []) := specIdem_c N [(2, c3.1[m])] 0 c3.1[m] hb (by simp) hL
          have hC2 : Spec Try.prog 107 [vagg [vint (N : Int), vsl 2 (fun y : Int × (List Int) => [vint y.1, vsl 1 (fun x : Int => [vint x]) y.2]) ([(2, c3.1[m])])], vint 0] [] (fun r S' => r = vtup [vbool (comB N c3.1[m]), vbool true] ∧ S' = []) := specComm_c N [(2, c3.1[m])] 0 c3.1[m] hb (by simp) hL
          have hA2 : Spec Try.prog 108 [vagg [vint (N : Int), vsl 2 (fun y : Int × (List Int) => [vint y.1, vsl 1 (fun x : Int => [vint x]) y.2]) ([(2, c3.1[m])])], vint 0] [] (fun r S' => r = vtup [vbool (asB N c3.1[m]), vbool true] ∧ S' = []) := specAssoc_c N [(2, c3.1[m])] 0 c3.1[m] hb (by simp) hL
          have hIW : ∀ (b : Nat) (v : Sv), Spec Try.prog 106 [vagg [vint (N : Int), vsb b 1 1], vint 0] [harr b 2 (List.map vlit) [[.int .i64 2, vsv v]] (1 * 2), hsl tInt (vsv v) c3.1[m]] (fun r S' => r = vtup [vbool (idB N c3.1[m]), vbool true] ∧ S' = [harr b 2 (List.map vlit) [[.int .i64 2, vsv v]] (1 * 2), hsl tInt (vsv v) c3.1[m]]) := fun b v => (Spec.lendOp hI (fun r H ⟨h1, h2⟩ => by subst h1 h2; exact ⟨inferInstance, inferInstance⟩)).mono fun r S' ⟨H, ⟨h1, h2⟩, h3⟩ => ⟨h1, by rw [h3, h2]; rfl⟩
          have hCW : ∀ (b : Nat) (v : Sv), Spec Try.prog 107 [vagg [vint (N : Int), vsb b 1 1], vint 0] [harr b 2 (List.map vlit) [[.int .i64 2, vsv v]] (1 * 2), hsl tInt (vsv v) c3.1[m]] (fun r S' => r = vtup [vbool (comB N c3.1[m]), vbool true] ∧ S' = [harr b 2 (List.map vlit) [[.int .i64 2, vsv v]] (1 * 2), hsl tInt (vsv v) c3.1[m]]) := fun b v => (Spec.lendOp hC2 (fun r H ⟨h1, h2⟩ => by subst h1 h2; exact ⟨inferInstance, inferInstance⟩)).mono fun r S' ⟨H, ⟨h1, h2⟩, h3⟩ => ⟨h1, by rw [h3, h2]; rfl⟩
          have hAW : ∀ (b : Nat) (v : Sv), Spec Try.prog 108 [vagg [vint (N : Int), vsb b 1 1], vint 0] [harr b 2 (List.map vlit) [[.int .i64 2, vsv v]] (1 * 2), hsl tInt (vsv v) c3.1[m]] (fun r S' => r = vtup [vbool (asB N c3.1[m]), vbool true] ∧ S' = [harr b 2 (List.map vlit) [[.int .i64 2, vsv v]] (1 * 2), hsl tInt (vsv v) c3.1[m]]) := fun b v => (Spec.lendOp hA2 (fun r H ⟨h1, h2⟩ => by subst h1 h2; exact ⟨inferInstance, inferInstance⟩)).mono fun r S' ⟨H, ⟨h1, h2⟩, h3⟩ => ⟨h1, by rw [h3, h2]; rfl⟩
          have hyes : semB N c3.1[m] = true → opsL 2 ((c3.1.take (m + 1)).filter (semB N)) = opsL 2 ((c3.1.take m).filter (semB N)) ++ [(2, c3.1[m])] := fun h => by
            rw [fil_yes h9 h, opsL, List.map_append]; rfl
          have hno : ¬ semB N c3.1[m] = true → opsL 2 ((c3.1.take (m + 1)).filter (semB N)) = opsL 2 ((c3.1.take m).filter (semB N)) := fun h => by rw [fil_no h9 h]
          repeat' (first | (with_reducible first | refine RL.done ?_ | refine RD.app1 ?_) | (with_reducible refine RL.wanted ?_ ?_; exact rfl) | ((with_reducible show RH _ _ _ ⟨_, .load _ (.tmp 72), _, _, _, _⟩ _ _ _ _); refine RH.value (r := vagg [vlit (.int .i64 2), vlit (vsv s43)]) rfl rfl (VOp.loadEltAgg (b := b45) (k := 2) (i := 0) (r := List.map vlit) (xs := [[.int .i64 2, vsv s43]]) rfl (by with_reducible repeat (first | exact Has.head | apply Has.tail)) (Nat.zero_lt_succ _) rfl) ?_) | ((with_reducible show Run _ _ (.region 10 _ true) _ _ _); refine Run.regionD (fun i => i == 12) rfl ?_; change RD _ _ _ _ _ _ 13 (dm 13 0) _ _) | ((with_reducible show RD _ _ 10 _ _ _ _ _ _ _); first | ((with_reducible show RD _ _ _ _ _ _ _ (dm 13 0) _ _); refine RD.tk 0 (dm 13 5122) (dm 13 1) (hK := ?_)) | ((with_reducible show RD _ _ _ _ _ _ _ (dm 13 1) _ _); refine RD.tk 1 (dm 13 5120) (dm 13 3) (hK := ?_)) | ((with_reducible show RD _ _ _ _ _ _ _ (dm 13 3) _ _); refine RD.tk 2 (dm 13 6120) (dm 13 7) (hK := ?_)) | ((with_reducible show RD _ _ _ _ _ _ _ (dm 13 7) _ _); refine RD.tk 3 (dm 13 6112) (dm 13 15) (hK := ?_)) | ((with_reducible show RD _ _ _ _ _ _ _ (dm 13 15) _ _); refine RD.tk 4 (dm 13 6112) (dm 13 31) (hK := ?_)) | ((with_reducible show RD _ _ _ _ _ _ _ (dm 13 31) _ _); refine RD.tk 5 (dm 13 6080) (dm 13 63) (hK := ?_)) | ((with_reducible show RD _ _ _ _ _ _ _ (dm 13 63) _ _); refine RD.tk 6 (dm 13 6016) (dm 13 127) (hK := ?_)) | ((with_reducible show RD _ _ _ _ _ _ _ (dm 13 127) _ _); refine RD.a2 7 11 ?_ ?_) | ((with_reducible show RD _ _ _ _ _ _ _ (dm 13 255) _ _); refine RD.tk 8 (dm 13 5632) (dm 13 511) (hK := ?_)) | ((with_reducible show RD _ _ _ _ _ _ _ (dm 13 2175) _ _); refine RD.a1 7 ?_) | ((with_reducible show RD _ _ _ _ _ _ _ (dm 13 511) _ _); refine RD.a2 9 11 ?_ ?_) | ((with_reducible show RD _ _ _ _ _ _ _ (dm 13 2303) _ _); refine RD.tk 8 (dm 13 5632) (dm 13 2559) (hK := ?_)) | ((with_reducible show RD _ _ _ _ _ _ _ (dm 13 1023) _ _); refine RD.tk 10 (dm 13 4096) (dm 13 2047) (hK := ?_)) | ((with_reducible show RD _ _ _ _ _ _ _ (dm 13 2559) _ _); refine RD.a1 9 ?_) | ((with_reducible show RD _ _ _ _ _ _ _ (dm 13 2047) _ _); refine RD.a1 11 ?_) | ((with_reducible show RD _ _ _ _ _ _ _ (dm 13 3071) _ _); refine RD.tk 10 (dm 13 4096) (dm 13 4095) (hK := ?_)) | ((with_reducible show RD _ _ _ _ _ _ _ (dm 13 4095) _ _); refine RD.a1 12 ?_) | ((with_reducible show RD _ _ _ _ _ _ 0 _ _ _); refine RD.done (by kernel_rfl) ?_)) | ((with_reducible show RO _ _ 10 _ _ _ _ _ _ _ _); first | ((with_reducible show RO _ _ _ _ _ _ _ (dm 13 127) 7 _ _); (refine RO.cP (dm 13 255) Try.call92 ?_; refine ⟨_, hown, ?_⟩; rintro _ _ ⟨s43, rfl, rfl⟩)) | ((with_reducible show RO _ _ _ _ _ _ _ (dm 13 127) 11 _ _); (refine RO.eS (dm 13 2175) (hv := by show EOpS _ _ _ _ ⟨_, .alloc _, _, _, _, _⟩ _; exact EOpS.alloc) (h := ?_); rintro _ _ ⟨b7, rfl, rfl⟩)) | ((with_reducible show RO _ _ _ _ _ _ _ (dm 13 2175) 7 _ _); (refine RO.cP (dm 13 2303) Try.call92 ?_; refine ⟨_, hown, ?_⟩; rintro _ _ ⟨s43, rfl, rfl⟩)) | ((with_reducible show RO _ _ _ _ _ _ _ (dm 13 511) 9 _ _); (refine RO.eS (dm 13 1023) (hv := by show EOpS _ _ _ _ ⟨_, .buildSlice _ _ _, _, _, _, _⟩ _; exact EOpS.slitV (by repeat (first | exact Elts.nil | apply Elts.one1 rfl | apply Elts.agg2 rfl)) (by simp) rfl rfl) (h := ?_); rintro _ _ ⟨b45, rfl, rfl⟩)) | ((with_reducible show RO _ _ _ _ _ _ _ (dm 13 511) 11 _ _); (refine RO.eS (dm 13 2559) (hv := by show EOpS _ _ _ _ ⟨_, .alloc _, _, _, _, _⟩ _; exact EOpS.alloc) (h := ?_); rintro _ _ ⟨b7, rfl, rfl⟩)) | ((with_reducible show RO _ _ _ _ _ _ _ (dm 13 2559) 9 _ _); (refine RO.eS (dm 13 3071) (hv := by show EOpS _ _ _ _ ⟨_, .buildSlice _ _ _, _, _, _, _⟩ _; exact EOpS.slitV (by repeat (first | exact Elts.nil | apply Elts.one1 rfl | apply Elts.agg2 rfl)) (by simp) rfl rfl) (h := ?_); rintro _ _ ⟨b45, rfl, rfl⟩)) | ((with_reducible show RO _ _ _ _ _ _ _ (dm 13 2047) 11 _ _); (refine RO.eS (dm 13 4095) (hv := by show EOpS _ _ _ _ ⟨_, .alloc _, _, _, _, _⟩ _; exact EOpS.alloc) (h := ?_); rintro _ _ ⟨b7, rfl, rfl⟩)) | ((with_reducible show RO _ _ _ _ _ _ _ (dm 13 4095) 12 _ _); (refine RO.h (dm 13 8191) ?_; show RH _ _ _ ⟨_, _, _, _, _, _⟩ _ _ _ _))) | ((with_reducible show RH _ _ _ ⟨some 74, .buildSlice _ _ _, _, _, _, _⟩ _ _ _ _); refine RH.eff rfl rfl (EOpS.e (EOpS.slitV (by repeat (first | exact Elts.nil | apply Elts.one1 rfl | apply Elts.agg2 rfl)) (by simp) rfl rfl)) ?_; rintro _ _ ⟨b74, rfl, rfl⟩) | ((with_reducible show RH _ _ _ ⟨_, .call ⟨.value (.func 106), _, _⟩, _, _, _, _⟩ _ _ _ _); refine RH.cW Try.call106 ?_; refine ⟨_, _, _, (by repeat (first | exact Pick.nil | (apply Pick.cons; (with_reducible repeat (first | exact Rem.head | apply Rem.tail))))), hIW b45 s43, ?_⟩; rintro _ _ ⟨rfl, rfl⟩; refine RL.nm ?_) | ((with_reducible show RH _ _ _ ⟨_, .call ⟨.value (.func 107), _, _⟩, _, _, _, _⟩ _ _ _ _); refine RH.cW Try.call107 ?_; refine ⟨_, _, _, (by repeat (first | exact Pick.nil | (apply Pick.cons; (with_reducible repeat (first | exact Rem.head | apply Rem.tail))))), hCW b45 s43, ?_⟩; rintro _ _ ⟨rfl, rfl⟩; refine RL.nm ?_) | ((with_reducible show RH _ _ _ ⟨_, .call ⟨.value (.func 108), _, _⟩, _, _, _, _⟩ _ _ _ _); refine RH.cW Try.call108 ?_; refine ⟨_, _, _, (by repeat (first | exact Pick.nil | (apply Pick.cons; (with_reducible repeat (first | exact Rem.head | apply Rem.tail))))), hAW b45 s43, ?_⟩; rintro _ _ ⟨rfl, rfl⟩; refine RL.nm ?_) | ((with_reducible show RH _ _ _ ⟨_, .call ⟨.builtin .append, _, _⟩, _, _, _, _⟩ _ _ _ _); (refine RH.appPI rfl rfl rfl (by repeat (first | exact Pick.nil | (apply Pick.cons; (with_reducible repeat (first | exact Rem.head | apply Rem.tail))))) (by first | omega | (simp; omega)) (by first | omega | (simp; omega)) ?_); rintro _ _ ⟨s, rfl, rfl⟩) | ((with_reducible show RH _ _ _ _ _ _ _ _); first | refine RH.val (hK := ?_) | refine RH.upd (hK := ?_)) | (with_reducible show RL _ _ _ (_ :: _) _ _ _; first | refine RL.guardYes rfl rfl rfl rfl ?_ | refine RL.guardNoS rfl rfl rfl rfl rfl rfl ?_ | refine RL.split rfl rfl rfl (fun h => ?_) (fun h => ?_)) | (with_reducible first | refine Run.seq ?_ | refine Run.region ?_ | refine Run.block ?_ | refine Run.skip ?_ | refine Run.exit ?_ | refine Run.ret ?_) | (with_reducible show Run _ _ (.cond _ _ _) _ _ _; first | refine Run.condF rfl ?_ | refine Run.condD rfl (fun h => ?_) (fun h => ?_) | refine Run.cond rfl (fun h => ?_) (fun h => ?_)) | (with_reducible first | refine seqN (K := Run _ _ _ _) ?_ | refine seqE ?_ | refine blockN ?_ | refine blockE ?_))
          all_goals first
            | (exfalso; omega)
            | skip
          all_goals (by_cases hsem : semB N c3.1[m] = true)
          all_goals (have hsd := hsem; simp only [semB] at hsd)
          all_goals first
            | (exfalso; revert hsd; simp only [*, Bool.and_false, Bool.false_and, Bool.and_self, not_true_eq_false, Bool.false_eq_true, not_false_eq_true, imp_self]; done)
            | (exfalso; simp_all; done)
            | (have hd := hyes hsem
               with_reducible refine seqN ?_
               exact ⟨(m + 1, _), by dsimp only; omega, by dsimp only; omega, Ent.of (by dsimp only; exact slA) (by dsimp only; rw [hd]; exact chA)⟩)
            | (have hd := hno hsem
               with_reducible refine seqN ?_
               exact ⟨(m + 1, s), by dsimp only; omega, by dsimp only; omega, Ent.of (by dsimp only; exact slA) (by dsimp only; rw [hd]; exact chA)⟩)
        · subst h9
          rw [List.take_length]
          repeat' (first | (with_reducible refine RL.done ?_) | (with_reducible refine RL.wanted ?_ ?_; exact rfl) | ((with_reducible show RH _ _ _ _ _ _ _ _); refine RH.val (hK := ?_)) | (with_reducible first | refine Run.seq ?_ | refine Run.region ?_ | refine Run.block ?_ | refine Run.skip ?_ | refine Run.exit ?_ | refine Run.ret ?_) | (with_reducible show Run _ _ (.cond _ _ _) _ _ _; refine Run.condD rfl (fun h => ?_) (fun h => ?_)) | (with_reducible first | refine seqN (K := Run _ _ _ _) ?_ | refine seqE ?_ | refine blockE ?_))
          all_goals first
            | (exfalso; omega)
            | (refine ⟨eA, _, [hsl (tPair tInt (tS tInt)) (vsv s) (opsL 2 (c3.1.filter (semB N)))], resA, ?_, ?_⟩
               · exact SEnt.ch chA
               · exact ⟨s, rfl, rfl⟩)
  · have e : semV n os = none := by rw [semV, if_neg h4]
    rw [e]
    refine Spec.of_run2 (n := 77) Try.func46 rfl Try.results46 Try.ntmps46 rfl ?_
    repeat' (first | (with_reducible first | refine RL.done ?_ | refine RL.app0 ?_) | (with_reducible refine RL.wanted ?_ ?_; exact rfl) | ((with_reducible show RH _ _ _ ⟨some 1, .box _ _, _, _, _, _⟩ _ _ _ _); (refine RH.boxAgg rfl rfl ?_; rintro _ _ ⟨b1, rfl, rfl⟩)) | ((with_reducible show RH _ _ _ ⟨some 14, .buildSlice _ _ _, _, _, _, _⟩ _ _ _ _); refine RH.eff rfl rfl (EOpS.e (EOpS.slitV (by repeat (first | exact Elts.nil | apply Elts.one1 rfl | apply Elts.agg2 rfl)) (by simp) rfl rfl)) ?_; rintro _ _ ⟨b14, rfl, rfl⟩) | ((with_reducible show RH _ _ _ ⟨_, .call ⟨.value (.func 94), _, _⟩, _, _, _, _⟩ _ _ _ _); refine RH.cP Try.call94 ?_; refine ⟨_, hA, ?_⟩; rintro _ _ ⟨rfl, rfl⟩) | ((with_reducible show RH _ _ _ _ _ _ _ _); refine RH.val (hK := ?_)) | (with_reducible show RL _ _ _ (_ :: _) _ _ _; first | refine RL.guardYes rfl rfl rfl rfl ?_ | refine RL.guardNoS rfl rfl rfl rfl rfl rfl ?_ | refine RL.splitNB rfl rfl rfl (fun h => ?_) (fun h => ?_)) | (with_reducible first | refine Run.seq ?_ | refine Run.region ?_ | refine Run.skip ?_ | refine Run.ret ?_) | (with_reducible show Run _ _ (.cond _ _ _) _ _ _; first | refine Run.condT rfl ?_ | refine Run.condD rfl (fun h => ?_) (fun h => ?_)) | (with_reducible first | refine seqN (K := Run _ _ _ _) ?_ | refine seqR ?_))
    all_goals first
      | (refine ⟨eA, _, [hsl (tPair tInt (tS tInt)) (vsv (some ⟨b14, 0, none⟩, 0, 0)) []], resA, ?_, ?_⟩
         · exact (SEnt.packNil (tPair tInt (tS tInt)) rfl).trans (SEnt.ch (.cons .head rfl .nil))
         · exact ⟨_, rfl, rfl⟩)
      | (exfalso; omega)
end Go.Proofs.Ytejeeokjjbiadaa
