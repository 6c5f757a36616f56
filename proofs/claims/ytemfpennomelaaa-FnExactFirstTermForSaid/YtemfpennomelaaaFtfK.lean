/- The first terms of a span: (*span).firstTerms. Proved for this program; conditions: a valid algebra, the list of all generated tuples. -/
import Derived.Test.YtemfpennomelaaaFtfJ
import Derived.Test.YtemfpennomelaaaFtfT
namespace Go.Proofs.Ytemfpennomelaaa
open Go Go.Proofs
set_option linter.unusedVariables false
theorem SEnt.packSv0 {β : Type} {r : β → List VP} {x0 : β} {b m l : Nat} {S : List HP} (hr : r x0 = [vlit (.slice none 0 0)]) (hl : l ≤ m) : SEnt (harr b 1 r (List.replicate l x0) (m * 1) :: S) (hsl tSv (.slice (some ⟨b, 0, none⟩) l m) (List.replicate l (none, 0, 0)) :: S) :=
  SEnt.packRep tSv (z := (none, 0, 0)) (us := [.slice none 0 0]) (fun c => ⟨rfl, rfl⟩) hr rfl hl
/-! ### the rounds -/
def rxI (os : List (Int × List Int)) (L B : List (List Int)) (n : Int) (k j : Nat) (h : j < os.length) (i : Nat) : Bool := rxB j B (lowd (i : Int) (L.length : Int) os[j].1.toNat) (L.idxOf (opV n k os[j] L i))
def QuTo (os : List (Int × List Int)) (L B : List (List Int)) (n : Int) (k j : Nat) : Prop := ∀ j' (h : j' < os.length), j' < j → ∀ i : Nat, (i : Int) < pw (L.length : Int) os[j'].1.toNat → rxI os L B n k j' h i = false
def QuIn (os : List (Int × List Int)) (L B : List (List Int)) (n : Int) (k j i : Nat) : Prop := ∀ (h : j < os.length) (i' : Nat), i' < i → rxI os L B n k j h i' = false
structure Rd (n : Int) (os : List (Int × List Int)) (k : Nat) (G L B0 : List (List Int)) (W j i : Nat) (c : Bool) (B : List (List Int)) : Prop where
  rr : Rx n os k G L B
  le : rks W B ≤ rks W B0
  yes : c = true → rks W B < rks W B0
  no : c = false → B = B0 ∧ QuTo os L B n k j ∧ QuIn os L B n k j i
theorem Rd.start {n : Int} {os : List (Int × List Int)} {k : Nat} {G L B : List (List Int)} (h : Rx n os k G L B) (W : Nat) : Rd n os k G L B W 0 0 false B :=
  ⟨h, Nat.le_refl _, (fun h => by cases h), fun _ => ⟨rfl, fun j h1 h2 => absurd h2 (Nat.not_lt_zero _), fun _ i h2 => absurd h2 (Nat.not_lt_zero _)⟩⟩
theorem Rd.next {n : Int} {os : List (Int × List Int)} {k : Nat} {G L B0 B : List (List Int)} {W j i : Nat} {c : Bool} (h : Rd n os k G L B0 W j i c B) (hj : j < os.length) (hi : (i : Int) = pw (L.length : Int) os[j].1.toNat) : Rd n os k G L B0 W (j + 1) 0 c B :=
  ⟨h.rr, h.le, h.yes, fun e => by
    obtain ⟨h1, h2, h3⟩ := h.no e
    refine ⟨h1, fun j' k1 k2 i' k3 => ?_, fun _ i h2 => absurd h2 (Nat.not_lt_zero _)⟩
    rcases Nat.lt_or_eq_of_le (Nat.le_of_lt_succ k2) with k4 | rfl
    · exact h2 j' k1 k4 i' k3
    · exact h3 k1 i' (by omega)⟩
theorem Rd.one {n : Int} {os : List (Int × List Int)} {k : Nat} {G L B0 B : List (List Int)} {W j i : Nat} {c : Bool} (h : Rd n os k G L B0 W j i c B) (hG : G.length ≤ 6) (ho : os.length ≤ 4) (hW : W = 32 ^ 60) (hj : j < os.length) {p : Nat} (hp : L.idxOf (opV n k os[j] L i) = p) (ha : RxAt n os k L j (lowd (i : Int) (L.length : Int) os[j].1.toNat) p) {b : Bool} (hb : rxB j B (lowd (i : Int) (L.length : Int) os[j].1.toNat) p = b) :
    Rd n os k G L B0 W j (i + 1) (c || b) (rx j B (lowd (i : Int) (L.length : Int) os[j].1.toNat) p) := by
  subst hp
  cases b with
  | true =>
    obtain ⟨h1, h2⟩ := h.rr.step hG ho ha hb hW
    rw [rx_yes hb, Bool.or_true]
    have := h.le
    exact ⟨h1, by omega, fun _ => by omega, fun h => by cases h⟩
  | false =>
    rw [rx_no hb, Bool.or_false]
    refine ⟨h.rr, h.le, h.yes, fun e => ?_⟩
    obtain ⟨h1, h2, h3⟩ := h.no e
    refine ⟨h1, h2, fun k1 i' k2 => ?_⟩
    rcases Nat.lt_or_eq_of_le (Nat.le_of_lt_succ k2) with k4 | rfl
    · exact h3 k1 i' k4
    · exact hb
theorem Rx.rows {n : Int} {os : List (Int × List Int)} {k : Nat} {G L B : List (List Int)} (h : Rx n os k G L B) : ∀ u ∈ B, u.length ≤ 60 := fun u hu => by
  obtain ⟨i, hi, rfl⟩ := List.getElem_of_mem hu
  have e : B.getD i [] = B[i] := by rw [List.getD_eq_getElem?_getD, List.getElem?_eq_getElem hi]; rfl
  by_cases h0 : B[i] = []
  · rw [h0]; exact Nat.zero_le _
  · have := (h.snd i (by rw [← h.len]; exact hi) (by rw [e]; exact h0)).2
    rwa [e] at this
theorem rx_at {n : Int} {os : List (Int × List Int)} {k : Nat} {L : List (List Int)} (hcu : ClosedU n os k L) {j : Nat} (hj : j < os.length) {i : Nat} (hi : (i : Int) < pw (L.length : Int) os[j].1.toNat) : L.idxOf (opV n k os[j] L i) < L.length ∧ RxAt n os k L j (lowd (i : Int) (L.length : Int) os[j].1.toNat) (L.idxOf (opV n k os[j] L i)) := by
  have hll := lowd_length (i : Int) (L.length : Int) os[j].1.toNat
  have hnum := low_at hi
  have hin : opV n k os[j] L i ∈ L := hcu _ (List.getElem_mem hj) _ (by rw [chosen_len]; exact hll) fun u hu => by
    obtain ⟨x, hx, rfl⟩ := List.mem_map.1 hu
    rw [List.getD_eq_getElem?_getD, List.getElem?_eq_getElem (hnum x hx).2]
    exact List.getElem_mem _
  have h1 := List.idxOf_lt_length_of_mem hin
  exact ⟨h1, hj, hll, hnum, h1, List.getElem_idxOf h1⟩
set_option maxRecDepth 10000 in
set_option maxHeartbeats 8000000 in
theorem firstTerms_c (n : Int) (os : List (Int × List Int)) (m : Nat) (G L : List (List Int)) (ha : algB n os = true) (hm64 : m ≤ 64) (hG : ∀ t ∈ G, TupOk n m t) (hg6 : G.length ≤ 6) (hy : SpanYes n os m G L) (bs bm : Nat) :
    Spec Try.prog 31 [vptr bs 0, vsl 1 (fun t : List Int => [vsl 1 (fun x : Int => [vint x]) t]) G] [hcells bs [vint n, vsl 2 (fun y : Int × (List Int) => [vint y.1, vsl 1 (fun x : Int => [vint x]) y.2]) os, vint (m : Int), vsl 1 (fun t : List Int => [vsl 1 (fun x : Int => [vint x]) t]) L, vmap bm], hmapI bm (kvL L 0)]
      (fun r S' => ∃ (s : Sv) (V : List Sv) (ps : PS) (B : List (List Int)), r = vlit (vsv s) ∧ S' = [hsl tSv (vsv s) V, hrows ps] ∧ Asc V ps B ∧ B.length = L.length ∧ BestT n os m G L (bO L B)) := by
  obtain ⟨hn1, hn8, ho4, hops⟩ := algB_at ha
  obtain ⟨hnd, hcl, hLm⟩ := hy
  have hmost := mostV_le os
  have hop3 : ∀ f ∈ os, 0 ≤ f.1 ∧ f.1 ≤ 3 := fun f hf => by
    have h := hops f hf
    simp only [opB, Bool.and_eq_true, decide_eq_true_eq] at h
    exact h.1
  have htup : ∀ t ∈ L, TupOk n m t := fun t ht => ((hcl t).1 ht).ok ha (by omega) hG
  have hkv : KvIx L (kvL L 0) := kvL_ix hnd fun t ht => tup_byt hn8 (htup t ht)
  have hcu : ClosedU n os m L := fun f hf ts h1 h2 => (hcl _).2 (.op hf h1 fun u hu => (hcl u).1 (h2 u hu))
  refine Spec.of_run2 (n := 81) Try.func31 rfl Try.results31 Try.ntmps31 rfl ?_
  repeat' (first | (with_reducible refine RL.done ?_) | (with_reducible refine RL.wanted ?_ ?_; exact rfl) | ((with_reducible show RH _ _ _ ⟨some 20, .makeSlice _ _ _, _, _, _, _⟩ _ _ _ _); refine RH.make (α := List Value) rfl (List.map vlit) [.slice none 0 0] (fun c => .cons rfl .nil) rfl rfl (by omega) (by omega) (by omega) ?_; rintro _ _ ⟨b20, rfl, rfl⟩) | ((with_reducible show RH _ _ _ _ _ _ _ _); refine RH.val (hK := ?_)) | (with_reducible first | refine Run.seq ?_ | refine Run.region ?_ | refine Run.block ?_) | (with_reducible refine seqN (K := Run _ _ _ _) ?_))
  refine Run.sent (T := [hsl tSv (vsv (some ⟨b20, 0, none⟩, L.length, L.length)) (List.replicate L.length (none, 0, 0)), hrows [], hcells bs [vint n, vsl 2 (fun y : Int × (List Int) => [vint y.1, vsl 1 (fun x : Int => [vint x]) y.2]) os, vint (m : Int), vsl 1 (fun t : List Int => [vsl 1 (fun x : Int => [vint x]) t]) L, vmap bm], hmapI bm (kvL L 0)])
    ((SEnt.packSv0 (r := List.map vlit) (x0 := [.slice none 0 0]) rfl (Nat.le_refl L.length)).trans (SEnt.nilrows.trans (SEnt.pick (B := [hsl tSv (vsv (some ⟨b20, 0, none⟩, L.length, L.length)) (List.replicate L.length (none, 0, 0))]) (.cons (.tail .head) .nil)))) ?_
  refine Run.loop (α := Nat × List Sv × PS × List (List Int)) (fun z => [(0, vptr bs 0), (5, vsb b20 L.length L.length), (21, vsl 1 (fun t : List Int => [vsl 1 (fun x : Int => [vint x]) t]) G), (22, vint (G.length : Int)), (23, vint (z.1 : Int))])
    (fun z => [hsl tSv (vsv (some ⟨b20, 0, none⟩, L.length, L.length)) z.2.1, hrows z.2.2.1, hcells bs [vint n, vsl 2 (fun y : Int × (List Int) => [vint y.1, vsl 1 (fun x : Int => [vint x]) y.2]) os, vint (m : Int), vsl 1 (fun t : List Int => [vsl 1 (fun x : Int => [vint x]) t]) L, vmap bm], hmapI bm (kvL L 0)])
    (fun z => z.1 ≤ G.length ∧ Dg n os m G L z.1 z.2.2.2 ∧ Asc z.2.1 z.2.2.1 z.2.2.2) (fun z => G.length - z.1) (0, List.replicate L.length (none, 0, 0), [], List.replicate L.length []) ⟨Nat.zero_le _, Dg.nil n os m G L, Asc.nil L.length⟩ (Ent.of slA .refl) ?_
  rintro ⟨i, V, ps, B⟩ ⟨hi, hD, hA⟩
  dsimp only at hi hD hA ⊢
  have hBL := hD.len
  have hVl := hA.len
  rcases Nat.lt_or_eq_of_le hi with h9 | h9
  · have hGk := (hG _ (List.getElem_mem h9)).1
    have hin : G[i] ∈ L := (hcl _).2 (.gen (List.getElem_mem h9))
    have hkg := hkv _ hin
    have hp := List.idxOf_lt_length_of_mem hin
    have hpe := List.getElem_idxOf hp
    have hpq : (kvGet (kvL L 0) (keyS G[i])).toNat = L.idxOf G[i] := by omega
    rw [← hpq] at hp
    have hpe2 : L[(kvGet (kvL L 0) (keyS G[i])).toNat]'hp = G[i] := by simp only [hpq]; exact hpe
    have hpV : (kvGet (kvL L 0) (keyS G[i])).toNat < V.length := by omega
    have hnone := hA.isNone hpV
    rcases Decidable.em (B.getD (kvGet (kvL L 0) (keyS G[i])).toNat [] = []) with e | e
    · rw [decide_eq_true e] at hnone
      repeat' (first | (with_reducible first | refine RL.done ?_ | refine RD.app0 ?_) | (with_reducible refine RL.wanted ?_ ?_; exact rfl) | ((with_reducible show RH _ _ _ ⟨some 38, .load 26 _, _, _, _, _⟩ _ _ _ _); refine RH.value rfl rfl (VOp.loadHS (xs := V) rfl (by with_reducible repeat (first | exact Has.head | apply Has.tail)) (by omega)) ?_) | ((with_reducible show RH _ _ _ ⟨_, .store 26 (.tmp 44) _, _, _, _, _⟩ _ _ _ _); refine RH.put rfl (UOp.storeHS (xs := V) (z := (some ⟨b43, 0, none⟩, 1, 1)) rfl rfl (by with_reducible repeat (first | exact Plc.head | apply Plc.tail)) (by omega)) ?_) | ((with_reducible show Run _ _ (.region 5 _ true) _ _ _); refine Run.regionD (fun i => false) rfl ?_; change RD _ _ _ _ _ _ 8 (dm 8 0) _ _) | ((with_reducible show RD _ _ 5 _ _ _ _ _ _ _); first | ((with_reducible show RD _ _ _ _ _ _ _ (dm 8 0) _ _); refine RD.tk 0 (dm 8 206) (dm 8 1) (hK := ?_)) | ((with_reducible show RD _ _ _ _ _ _ _ (dm 8 1) _ _); refine RD.tk 1 (dm 8 204) (dm 8 3) (hK := ?_)) | ((with_reducible show RD _ _ _ _ _ _ _ (dm 8 3) _ _); refine RD.tk 2 (dm 8 200) (dm 8 7) (hK := ?_)) | ((with_reducible show RD _ _ _ _ _ _ _ (dm 8 7) _ _); refine RD.tk 3 (dm 8 192) (dm 8 15) (hK := ?_)) | ((with_reducible show RD _ _ _ _ _ _ _ (dm 8 15) _ _); refine RD.tk 4 (dm 8 224) (dm 8 31) (hK := ?_)) | ((with_reducible show RD _ _ _ _ _ _ _ (dm 8 31) _ _); refine RD.a1 5 ?_) | ((with_reducible show RD _ _ _ _ _ _ _ (dm 8 63) _ _); refine RD.tk 6 (dm 8 128) (dm 8 127) (hK := ?_)) | ((with_reducible show RD _ _ _ _ _ _ _ (dm 8 127) _ _); refine RD.tk 7 (dm 8 0) (dm 8 255) (hK := ?_)) | ((with_reducible show RD _ _ _ _ _ _ 0 _ _ _); refine RD.done (by kernel_rfl) ?_)) | ((with_reducible show RO _ _ 5 _ _ _ _ _ _ _ _); ((with_reducible show RO _ _ _ _ _ _ _ (dm 8 31) 5 _ _); (refine RO.cP (dm 8 63) Try.call30 ?_; refine ⟨_, keyOf_c G[i] (by omega), ?_⟩; rintro _ _ ⟨rfl, rfl⟩))) | ((with_reducible show RH _ _ _ ⟨some 43, .buildSlice _ _ _, _, _, _, _⟩ _ _ _ _); refine RH.eff rfl rfl (EOpS.e (EOpS.slit (fun x : Int => [vint x]) _ (fun _ _ => rfl) (by repeat (first | exact Elts.nil | (apply Elts.cons; exact rfl; exact CellsOf.one))) rfl rfl)) ?_; rintro _ _ ⟨b43, rfl, rfl⟩) | ((with_reducible show RH _ _ _ _ _ _ _ _); refine RH.val (hK := ?_)) | (with_reducible first | refine Run.seq ?_ | refine Run.region ?_ | refine Run.block ?_ | refine Run.skip ?_ | refine Run.exit ?_) | (with_reducible show Run _ _ (.cond _ _ _) _ _ _; first | refine Run.condD rfl (fun h => ?_) (fun h => ?_) | refine Run.cond rfl (fun h => ?_) (fun h => ?_)) | (with_reducible first | refine seqN (K := Run _ _ _ _) ?_ | refine seqE ?_ | refine blockN ?_ | refine blockE ?_))
      all_goals first
        | (exfalso; omega)
        | (exfalso; simp_all; done)
        | (with_reducible refine seqN ?_
           refine ⟨(i + 1, V.set (kvGet (kvL L 0) (keyS G[i])).toNat (some ⟨b43, 0, none⟩, 1, 1), ((some ⟨b43, 0, none⟩, 1, 1), [(i : Int)]) :: ps, B.set (kvGet (kvL L 0) (keyS G[i])).toNat [(i : Int)]), ⟨by dsimp only; omega, hD.put hnd h9 hp hpe2 e, (hA.more fun p hp => List.mem_cons_of_mem _ hp).set (by omega) List.mem_cons_self (by simp) rfl (by simp)⟩, by dsimp only; omega, ?_⟩
           exact Ent.trans (SEnt.ent (show SEnt _ [hrows (((some ⟨b43, 0, none⟩, 1, 1), [(i : Int)]) :: ps), hsl tSv (vsv (some ⟨b20, 0, none⟩, L.length, L.length)) (V.set (kvGet (kvL L 0) (keyS G[i])).toNat (some ⟨b43, 0, none⟩, 1, 1)), hcells bs [vint n, vsl 2 (fun y : Int × (List Int) => [vint y.1, vsl 1 (fun x : Int => [vint x]) y.2]) os, vint (m : Int), vsl 1 (fun t : List Int => [vsl 1 (fun x : Int => [vint x]) t]) L, vmap bm], hmapI bm (kvL L 0)] from (SEnt.pick (B := [harr b43 1 (fun x : Int => [vint x]) [(i : Int)] (1 * 1), hrows ps]) (by repeat (first | exact Pick.nil | (apply Pick.cons; (repeat (first | exact Rem.head | apply Rem.tail)))))).trans ((SEnt.pack (fun _ => rfl) rfl).trans (SEnt.addrow (w := (some ⟨b43, 0, none⟩, 1, 1)) (t := [(i : Int)]))))) (Ent.of (by dsimp only; exact slA) (by dsimp only; exact chA)))
    · rw [decide_eq_false e] at hnone
      repeat' (first | (with_reducible first | refine RL.done ?_ | refine RD.app0 ?_) | (with_reducible refine RL.wanted ?_ ?_; exact rfl) | ((with_reducible show RH _ _ _ ⟨some 38, .load 26 _, _, _, _, _⟩ _ _ _ _); refine RH.value rfl rfl (VOp.loadHS (xs := V) rfl (by with_reducible repeat (first | exact Has.head | apply Has.tail)) (by omega)) ?_) | ((with_reducible show RH _ _ _ ⟨_, .store 26 (.tmp 44) _, _, _, _, _⟩ _ _ _ _); refine RH.put rfl (UOp.storeHS (xs := V) (z := (some ⟨b43, 0, none⟩, 1, 1)) rfl rfl (by with_reducible repeat (first | exact Plc.head | apply Plc.tail)) (by omega)) ?_) | ((with_reducible show Run _ _ (.region 5 _ true) _ _ _); refine Run.regionD (fun i => false) rfl ?_; change RD _ _ _ _ _ _ 8 (dm 8 0) _ _) | ((with_reducible show RD _ _ 5 _ _ _ _ _ _ _); first | ((with_reducible show RD _ _ _ _ _ _ _ (dm 8 0) _ _); refine RD.tk 0 (dm 8 206) (dm 8 1) (hK := ?_)) | ((with_reducible show RD _ _ _ _ _ _ _ (dm 8 1) _ _); refine RD.tk 1 (dm 8 204) (dm 8 3) (hK := ?_)) | ((with_reducible show RD _ _ _ _ _ _ _ (dm 8 3) _ _); refine RD.tk 2 (dm 8 200) (dm 8 7) (hK := ?_)) | ((with_reducible show RD _ _ _ _ _ _ _ (dm 8 7) _ _); refine RD.tk 3 (dm 8 192) (dm 8 15) (hK := ?_)) | ((with_reducible show RD _ _ _ _ _ _ _ (dm 8 15) _ _); refine RD.tk 4 (dm 8 224) (dm 8 31) (hK := ?_)) | ((with_reducible show RD _ _ _ _ _ _ _ (dm 8 31) _ _); refine RD.a1 5 ?_) | ((with_reducible show RD _ _ _ _ _ _ _ (dm 8 63) _ _); refine RD.tk 6 (dm 8 128) (dm 8 127) (hK := ?_)) | ((with_reducible show RD _ _ _ _ _ _ _ (dm 8 127) _ _); refine RD.tk 7 (dm 8 0) (dm 8 255) (hK := ?_)) | ((with_reducible show RD _ _ _ _ _ _ 0 _ _ _); refine RD.done (by kernel_rfl) ?_)) | ((with_reducible show RO _ _ 5 _ _ _ _ _ _ _ _); ((with_reducible show RO _ _ _ _ _ _ _ (dm 8 31) 5 _ _); (refine RO.cP (dm 8 63) Try.call30 ?_; refine ⟨_, keyOf_c G[i] (by omega), ?_⟩; rintro _ _ ⟨rfl, rfl⟩))) | ((with_reducible show RH _ _ _ ⟨some 43, .buildSlice _ _ _, _, _, _, _⟩ _ _ _ _); refine RH.eff rfl rfl (EOpS.e (EOpS.slit (fun x : Int => [vint x]) _ (fun _ _ => rfl) (by repeat (first | exact Elts.nil | (apply Elts.cons; exact rfl; exact CellsOf.one))) rfl rfl)) ?_; rintro _ _ ⟨b43, rfl, rfl⟩) | ((with_reducible show RH _ _ _ _ _ _ _ _); refine RH.val (hK := ?_)) | (with_reducible first | refine Run.seq ?_ | refine Run.region ?_ | refine Run.block ?_ | refine Run.skip ?_ | refine Run.exit ?_) | (with_reducible show Run _ _ (.cond _ _ _) _ _ _; first | refine Run.condD rfl (fun h => ?_) (fun h => ?_) | refine Run.cond rfl (fun h => ?_) (fun h => ?_)) | (with_reducible first | refine seqN (K := Run _ _ _ _) ?_ | refine seqE ?_ | refine blockN ?_ | refine blockE ?_))
      all_goals first
        | (exfalso; omega)
        | (exfalso; simp_all; done)
        | (with_reducible refine seqN ?_
           exact ⟨(i + 1, V, ps, B), ⟨by dsimp only; omega, hD.have hnd h9 hp hpe2 e, hA⟩, by dsimp only; omega, Ent.of (by dsimp only; exact slA) (by dsimp only; exact chA)⟩)
  · subst h9
    have hRx : Rx n os m G L B := ⟨hD.len, hD.snd, hD.gen⟩
    clear hD hi
    obtain ⟨W, hW⟩ : ∃ W : Nat, W = 32 ^ 60 := ⟨_, rfl⟩
    repeat' (first | (with_reducible refine RL.done ?_) | (with_reducible refine RL.wanted ?_ ?_; exact rfl) | ((with_reducible show RH _ _ _ ⟨_, .call ⟨.value (.func 56), _, _⟩, _, _, _, _⟩ _ _ _ _); refine RH.cW Try.call56 ?_; refine ⟨_, _, _, (by repeat (first | exact Pick.nil | (apply Pick.cons; (with_reducible repeat (first | exact Rem.head | apply Rem.tail))))), valueTablesX_c n os m L ha hm64 htup hcu hLm bs bm (kvL L 0) hkv, ?_⟩; rintro _ _ ⟨s47, rfl, rfl⟩; refine RL.nm ?_; refine RL.frzS ?_) | ((with_reducible show RH _ _ _ _ _ _ _ _); refine RH.val (hK := ?_)) | (with_reducible first | refine Run.seq ?_ | refine Run.region ?_ | refine Run.block ?_ | refine Run.skip ?_ | refine Run.exit ?_) | (with_reducible show Run _ _ (.cond _ _ _) _ _ _; refine Run.condD rfl (fun h => ?_) (fun h => ?_)) | (with_reducible first | refine seqN (K := Run _ _ _ _) ?_ | refine seqE ?_ | refine blockE ?_))
    all_goals first
      | (exfalso; omega)
      | skip
    refine Run.loop (α := Bool × List Sv × PS × List (List Int)) (fun z => [(0, vptr bs 0), (5, vsb b20 L.length L.length), (9, vsl 1 (fun t : List Int => [vsl 1 (fun x : Int => [vint x]) t]) ((tabsX n m L os))), (10, vbool z.1)])
      (fun z => [hsl tSv (vsv (some ⟨b20, 0, none⟩, L.length, L.length)) z.2.1, hrows z.2.2.1, hcells bs [vint n, vsl 2 (fun y : Int × (List Int) => [vint y.1, vsl 1 (fun x : Int => [vint x]) y.2]) os, vint (m : Int), vsl 1 (fun t : List Int => [vsl 1 (fun x : Int => [vint x]) t]) L, vmap bm]])
      (fun z => Rx n os m G L z.2.2.2 ∧ Asc z.2.1 z.2.2.1 z.2.2.2 ∧ (z.1 = false → QuTo os L z.2.2.2 n m os.length)) (fun z => 2 * rks W z.2.2.2 + (if z.1 then 1 else 0)) (true, V, ps, B) ⟨hRx, hA, fun h => by cases h⟩ (Ent.of (by dsimp only; exact slA) (by dsimp only; exact chA)) ?_
    clear hRx hA hBL hVl
    rintro ⟨c, V, ps, B⟩ ⟨hRx, hA, hqu⟩
    dsimp only at hRx hA hqu ⊢
    cases c with
    | false =>
      repeat' (first | (with_reducible refine RL.done ?_) | (with_reducible refine RL.wanted ?_ ?_; exact rfl) | ((with_reducible show RH _ _ _ _ _ _ _ _); refine RH.val (hK := ?_)) | (with_reducible first | refine Run.seq ?_ | refine Run.region ?_ | refine Run.exit ?_ | refine Run.ret ?_) | (with_reducible show Run _ _ (.cond _ _ _) _ _ _; refine Run.condF rfl ?_) | (with_reducible first | refine seqN (K := Run _ _ _ _) ?_ | refine seqE ?_ | refine blockE ?_))
      all_goals first
        | (exfalso; simp_all; done)
        | (refine ⟨eA, _, [hsl tSv (vsv (some ⟨b20, 0, none⟩, L.length, L.length)) V, hrows ps], resA, ?_, ?_⟩
           · exact SEnt.ch chA
           · exact ⟨_, V, ps, B, rfl, rfl, hA, hRx.len, hRx.best hnd fun j hj i hi => ⟨_, (rx_at hcu hj hi).2, hqu rfl j hj hj i hi⟩⟩)
    | true =>
      repeat' (first | (with_reducible refine RL.done ?_) | (with_reducible refine RL.wanted ?_ ?_; exact rfl) | ((with_reducible show RH _ _ _ _ _ _ _ _); refine RH.val (hK := ?_)) | (with_reducible first | refine Run.seq ?_ | refine Run.region ?_ | refine Run.block ?_ | refine Run.skip ?_) | (with_reducible show Run _ _ (.cond _ _ _) _ _ _; refine Run.condT rfl ?_) | (with_reducible refine seqN (K := Run _ _ _ _) ?_))
      all_goals first
        | (exfalso; simp_all; done)
        | skip
      refine Run.loop (α := Nat × Bool × List Sv × PS × List (List Int)) (fun z => [(0, vptr bs 0), (5, vsb b20 L.length L.length), (9, vsl 1 (fun t : List Int => [vsl 1 (fun x : Int => [vint x]) t]) ((tabsX n m L os))), (10, vbool z.2.1), (53, vsl 2 (fun y : Int × (List Int) => [vint y.1, vsl 1 (fun x : Int => [vint x]) y.2]) os), (54, vint (os.length : Int)), (55, vint (z.1 : Int))])
        (fun z => [hsl tSv (vsv (some ⟨b20, 0, none⟩, L.length, L.length)) z.2.2.1, hrows z.2.2.2.1, hcells bs [vint n, vsl 2 (fun y : Int × (List Int) => [vint y.1, vsl 1 (fun x : Int => [vint x]) y.2]) os, vint (m : Int), vsl 1 (fun t : List Int => [vsl 1 (fun x : Int => [vint x]) t]) L, vmap bm]])
        (fun z => z.1 ≤ os.length ∧ Rd n os m G L B W z.1 0 z.2.1 z.2.2.2.2 ∧ Asc z.2.2.1 z.2.2.2.1 z.2.2.2.2) (fun z => os.length - z.1) (0, false, V, ps, B) ⟨Nat.zero_le _, Rd.start hRx W, hA⟩ (Ent.of (by dsimp only; exact slA) (by dsimp only; exact chA)) ?_
      clear hA
      rintro ⟨j, c, V, ps, B1⟩ ⟨hj, hR, hA⟩
      dsimp only at hj hR hA ⊢
      rcases Nat.lt_or_eq_of_le hj with hop | h9
      · have hf3 := hop3 _ (List.getElem_mem hop)
        have hp0 := pw_nonneg (L.length : Int) (by omega) os[j].1.toNat
        have hN : ((opN os[j] L : Nat) : Int) = pw (L.length : Int) os[j].1.toNat := by rw [opN]; omega
        have hpb := pw_most (X := L) (fun f hf => (hop3 f hf).2) (List.getElem_mem hop) hf3 hLm
        have htl : (tabsX n m L os).length = os.length := by rw [tabsX, List.length_map]
        have htj : (tabsX n m L os)[j]'(by omega) = opTabX n m L os[j] (opN os[j] L) := by simp [tabsX]
        have htjl : ((tabsX n m L os)[j]'(by omega)).length = opN os[j] L := by rw [htj, opTabX_length]
        repeat' (first | (with_reducible refine RL.done ?_) | (with_reducible refine RL.wanted ?_ ?_; exact rfl) | ((with_reducible show RH _ _ _ ⟨some 12, .alloc _, _, _, _, _⟩ _ _ _ _); refine RH.alloc rfl ?_; rintro _ _ ⟨b12, rfl, rfl⟩) | ((with_reducible show RH _ _ _ _ _ _ _ _); first | refine RH.val (hK := ?_) | refine RH.upd (hK := ?_)) | (with_reducible first | refine Run.seq ?_ | refine Run.region ?_ | refine Run.block ?_ | refine Run.skip ?_ | refine Run.exit ?_) | (with_reducible show Run _ _ (.cond _ _ _) _ _ _; refine Run.condD rfl (fun h => ?_) (fun h => ?_)) | (with_reducible first | refine seqN (K := Run _ _ _ _) ?_ | refine seqE ?_ | refine blockN ?_ | refine blockE ?_))
        all_goals first
          | (exfalso; omega)
          | skip
        refine Run.loop (α := Nat × Bool × List Sv × PS × List (List Int)) (fun z => [(0, vptr bs 0), (5, vsb b20 L.length L.length), (9, vsl 1 (fun t : List Int => [vsl 1 (fun x : Int => [vint x]) t]) ((tabsX n m L os))), (10, vbool z.2.1), (11, vint (j : Int)), (12, vptr b12 0), (53, vsl 2 (fun y : Int × (List Int) => [vint y.1, vsl 1 (fun x : Int => [vint x]) y.2]) os), (54, vint (os.length : Int)), (55, vint (j : Int)), (63, vsl 1 (fun x : Int => [vint x]) (((tabsX n m L os)[j]'(by omega)))), (64, vint (opN os[j] L : Int)), (65, vint (z.1 : Int))])
          (fun z => [hsl tSv (vsv (some ⟨b20, 0, none⟩, L.length, L.length)) z.2.2.1, hrows z.2.2.2.1, hcells bs [vint n, vsl 2 (fun y : Int × (List Int) => [vint y.1, vsl 1 (fun x : Int => [vint x]) y.2]) os, vint (m : Int), vsl 1 (fun t : List Int => [vsl 1 (fun x : Int => [vint x]) t]) L, vmap bm], hcells b12 [vint os[j].1, vsl 1 (fun x : Int => [vint x]) os[j].2]])
          (fun z => z.1 ≤ opN os[j] L ∧ Rd n os m G L B W j z.1 z.2.1 z.2.2.2.2 ∧ Asc z.2.2.1 z.2.2.2.1 z.2.2.2.2) (fun z => opN os[j] L - z.1) (0, c, V, ps, B1) ⟨Nat.zero_le _, hR, hA⟩ (Ent.of (by dsimp only; exact slA) (by dsimp only; exact chA)) ?_
        clear hA hR
        rintro ⟨i, c, V, ps, B1⟩ ⟨hi, hR, hA⟩
        dsimp only at hi hR hA ⊢
        rcases Nat.lt_or_eq_of_le hi with h8 | h8
        · have hi2 : (i : Int) < pw (L.length : Int) os[j].1.toNat := by omega
          obtain ⟨hpL, hat⟩ := rx_at (k := m) hcu hop hi2
          have hX1 := ops_one hcu (List.getElem_mem hop) hi2
          have hBL := hR.rr.len
          have hv : ((tabsX n m L os)[j]'(by omega))[i]'(by omega) = (L.idxOf (opV n m os[j] L i) : Int) := by simp [htj, opTabX]
          have hrel := relax_c n os m L B1 V ps (some ⟨b20, 0, none⟩, L.length, L.length) bs bm j i _ hop (by omega) hf3 ⟨hX1, by omega⟩ hi2 (by omega) hpL hBL hR.rr.rows hA
          rw [← hv] at hrel
          repeat' (first | (with_reducible refine RL.done ?_) | (with_reducible refine RL.wanted ?_ ?_; exact rfl) | ((with_reducible show RH _ _ _ ⟨_, .call ⟨.value (.func 57), _, _⟩, _, _, _, _⟩ _ _ _ _); refine RH.cW Try.call57 ?_; refine ⟨_, _, _, (by repeat (first | exact Pick.nil | (apply Pick.cons; (with_reducible repeat (first | exact Rem.head | apply Rem.tail))))), hrel, ?_⟩; rintro _ _ ⟨V2, ps2, rfl, rfl, hA2⟩; refine RL.nm ?_) | ((with_reducible show RH _ _ _ _ _ _ _ _); refine RH.val (hK := ?_)) | (with_reducible first | refine Run.seq ?_ | refine Run.region ?_ | refine Run.block ?_ | refine Run.skip ?_ | refine Run.exit ?_) | (with_reducible show Run _ _ (.cond _ _ _) _ _ _; first | refine Run.condD rfl (fun h => ?_) (fun h => ?_) | refine Run.cond rfl (fun h => ?_) (fun h => ?_)) | (with_reducible first | refine seqN (K := Run _ _ _ _) ?_ | refine seqE ?_ | refine blockN ?_ | refine blockE ?_))
          all_goals first
            | (exfalso; omega)
            | (have hR2 := hR.one hg6 ho4 hW hop rfl hat (b := true) (by assumption)
               rw [Bool.or_true] at hR2
               with_reducible refine seqN ?_
               exact ⟨(i + 1, true, V2, ps2, _), ⟨by dsimp only; omega, hR2, hA2⟩, by dsimp only; omega, Ent.of (by dsimp only; exact slA) (by dsimp only; exact chA)⟩)
            | (have hR2 := hR.one hg6 ho4 hW hop rfl hat (b := false) (by assumption)
               rw [Bool.or_false] at hR2
               with_reducible refine seqN ?_
               exact ⟨(i + 1, c, V2, ps2, _), ⟨by dsimp only; omega, hR2, hA2⟩, by dsimp only; omega, Ent.of (by dsimp only; exact slA) (by dsimp only; exact chA)⟩)
        · subst h8
          repeat' (first | (with_reducible refine RL.done ?_) | (with_reducible refine RL.wanted ?_ ?_; exact rfl) | ((with_reducible show RH _ _ _ _ _ _ _ _); refine RH.val (hK := ?_)) | (with_reducible first | refine Run.seq ?_ | refine Run.region ?_ | refine Run.block ?_ | refine Run.skip ?_ | refine Run.exit ?_) | (with_reducible show Run _ _ (.cond _ _ _) _ _ _; refine Run.condD rfl (fun h => ?_) (fun h => ?_)) | (with_reducible first | refine seqN (K := Run _ _ _ _) ?_ | refine seqE ?_ | refine blockN ?_ | refine blockE ?_))
          all_goals first
            | (exfalso; omega)
            | (with_reducible refine seqN ?_
               exact ⟨(j + 1, c, V, ps, B1), ⟨by dsimp only; omega, hR.next hop hN, hA⟩, by dsimp only; omega, Ent.of (by dsimp only; exact slA) (by dsimp only; exact chA)⟩)
      · subst h9
        repeat' (first | (with_reducible refine RL.done ?_) | (with_reducible refine RL.wanted ?_ ?_; exact rfl) | ((with_reducible show RH _ _ _ ⟨some 12, .alloc _, _, _, _, _⟩ _ _ _ _); refine RH.alloc rfl ?_; rintro _ _ ⟨b12, rfl, rfl⟩) | ((with_reducible show RH _ _ _ _ _ _ _ _); first | refine RH.val (hK := ?_) | refine RH.upd (hK := ?_)) | (with_reducible first | refine Run.seq ?_ | refine Run.region ?_ | refine Run.block ?_ | refine Run.skip ?_ | refine Run.exit ?_) | (with_reducible show Run _ _ (.cond _ _ _) _ _ _; refine Run.condD rfl (fun h => ?_) (fun h => ?_)) | (with_reducible first | refine seqN (K := Run _ _ _ _) ?_ | refine seqE ?_ | refine blockN ?_ | refine blockE ?_))
        all_goals first
          | (exfalso; omega)
          | (with_reducible refine seqN ?_
             refine ⟨(c, V, ps, B1), ⟨hR.rr, hA, fun e => (hR.no e).2.1⟩, ?_, Ent.of (by dsimp only; exact slA) (by dsimp only; exact chA)⟩
             dsimp only
             cases c with
             | true => have := hR.yes rfl; simp only [if_true]; omega
             | false => have := (hR.no rfl).1; subst this; simp)
end Go.Proofs.Ytemfpennomelaaa
