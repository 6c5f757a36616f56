/- Clones: impl.cloneOf, termFunctions. Proved for this program; conditions: 1 to 8 elements, up to 3 arguments, up to 27 positions, valid operations. -/
import Derived.Test.YtejeeokjjbiadaaClone
import Derived.Test.YtejeeokjjbiadaaAlg
namespace Go.Proofs.Ytejeeokjjbiadaa
open Go Go.Proofs
set_option linter.unusedVariables false

def initC (n : Int) (k size : Nat) : Nat → CS
  | 0 => ([], [])
  | p + 1 => addC (initC n k size p) (projL n k p size) (-1, [(p : Int)])
/-- functions of so many positions, each with its step -/
structure CInv (n : Int) (size : Nat) (c : CS) : Prop where
  row : ∀ t ∈ c.1, t.length = size ∧ elB n t = true
  stp : c.2.length = c.1.length
theorem CInv.nil (n : Int) (size : Nat) : CInv n size ([], []) := ⟨fun t h => (by cases h), rfl⟩
theorem CInv.add {n : Int} {size : Nat} {c : CS} (h : CInv n size c) {t : List Int} {st : Int × List Int} (ht : t.length = size) (he : elB n t = true) : CInv n size (addC c t st) := by
  rw [addC]
  split
  · exact h
  · exact ⟨fun u hu => by
      rcases List.mem_append.1 hu with hu | hu
      · exact h.row u hu
      · rw [List.mem_singleton.1 hu]; exact ⟨ht, he⟩, by simp [h.stp]⟩
theorem addC_len (c : CS) (t : List Int) (st : Int × List Int) : c.1.length ≤ (addC c t st).1.length ∧ (addC c t st).1.length ≤ c.1.length + 1 := by
  rw [addC]; split <;> simp
theorem addC_pos (c : CS) (t : List Int) (st : Int × List Int) : 1 ≤ (addC c t st).1.length := by
  rw [addC]; split
  · rename_i h
    exact List.length_pos_of_mem h
  · simp
theorem initC_inv {n : Int} {k size : Nat} (hn : 1 ≤ n) : ∀ p, p ≤ k → CInv n size (initC n k size p) ∧ (initC n k size p).1.length ≤ p ∧ (1 ≤ p → 1 ≤ (initC n k size p).1.length)
  | 0, _ => ⟨CInv.nil n size, Nat.le_refl _, fun h => by omega⟩
  | p + 1, hp => by
    obtain ⟨h1, h2, h3⟩ := initC_inv (k := k) (size := size) hn p (by omega)
    have h4 := addC_len (initC n k size p) (projL n k p size) (-1, [(p : Int)])
    exact ⟨h1.add (projL_length _ _ _ _) (projL_el n k p size hn (by omega)), by rw [initC]; omega, fun _ => addC_pos _ _ _⟩
theorem elB_bytes {n : Int} {t : List Int} (h8 : n ≤ 8) (h : elB n t = true) : ∀ x ∈ t, 0 ≤ x ∧ x < 65536 := fun x hx => by
  rw [elB, List.all_eq_true] at h
  have := h x hx
  simp only [decide_eq_true_eq] at this
  omega
theorem CInv.key {n : Int} {size : Nat} {c : CS} (h : CInv n size c) (h8 : n ≤ 8) {t : List Int} (ht : elB n t = true) : keyS t ∈ List.map keyS c.1 ↔ t ∈ c.1 :=
  keyS_mem (elB_bytes h8 ht) (fun u hu => elB_bytes h8 (h.row u hu).2)
theorem addO_some {c : CS} {t : List Int} {st : Int × List Int} (h : (addC c t st).1.length ≤ 60) : addO c t st = some (addC c t st) := by
  rw [addO, addC] at *
  split
  · rfl
  · rename_i hm
    rw [if_neg hm] at h
    rw [if_neg (by simp at h; omega)]
theorem addO_none {c : CS} {t : List Int} {st : Int × List Int} (hc : c.1.length ≤ 60) (h : ¬ (addC c t st).1.length ≤ 60) : addO c t st = none := by
  rw [addO, addC] at *
  split
  · rename_i hm
    rw [if_pos hm] at h; omega
  · rename_i hm
    rw [if_neg hm] at h
    rw [if_pos (by simp at h; omega)]
abbrev CloneRes (o : Option CS) (r : VP) (S' : List HP) : Prop := match o with
  | none => r = vtup [vlit (.pointer none), vbool false] ∧ S' = []
  | some c => ∃ (bc bm : Nat) (s1 s2 : Sv), r = vtup [vptr bc 0, vbool true] ∧ S' = [hcells bc [vlit (vsv s1), vlit (vsv s2), vmap bm], hsl tRow (vsv s1) c.1, hsl (tPair tInt (tS tInt)) (vsv s2) c.2, hset bm (List.map keyS c.1)]
theorem opAp {n : Int} {size : Nat} {c : CS} (hc : CInv n size c) (h1 : 1 ≤ n) (h8 : n ≤ 8) (h27 : size ≤ 27) {a : Int} {tb : List Int} (ho : opB n a tb = true) {ns : List Int} (hl : ns.length = a.toNat) (hns : ∀ x ∈ ns, 0 ≤ x ∧ x.toNat < c.1.length) : ApOk n tb (chosen c.1 ns) size := by
  simp only [opB, Bool.and_eq_true, decide_eq_true_eq] at ho
  obtain ⟨⟨h0, h3⟩, h4, h5⟩ := ho
  have hcl : (chosen c.1 ns).length = a.toNat := by simp [chosen, hl]
  refine ⟨h1, h8, by omega, by rw [hcl]; exact h4, fun t ht => ?_, by omega⟩
  obtain ⟨x, hx, rfl⟩ := List.mem_map.1 ht
  rw [List.getD_eq_getElem?_getD, List.getElem?_eq_getElem (hns x hx).2]
  obtain ⟨h6, h7⟩ := hc.row _ (List.getElem_mem (hns x hx).2)
  exact ⟨Nat.le_of_eq h6.symm, h7⟩
theorem chosen_put {xs : List (List Int)} {ns : List Int} {A : List (List Int)} {q : Nat} (hq : q < ns.length) (hA : A.length = ns.length) (hx : (ns[q]).toNat < xs.length) :
    ((chosen xs ns).take q ++ A.drop q).set q (xs[(ns[q]).toNat]) = (chosen xs ns).take (q + 1) ++ A.drop (q + 1) := by
  have hcl : (chosen xs ns).length = ns.length := by simp [chosen]
  have hl : ((chosen xs ns).take q).length = q := by simp [hcl]; omega
  have e : (chosen xs ns)[q]'(by omega) = xs[(ns[q]).toNat] := by simp [chosen, hx]
  rw [List.set_append_right _ _ (by omega), hl, Nat.sub_self, List.drop_eq_getElem_cons (by omega), List.set_cons_zero, List.take_add_one, List.getElem?_eq_getElem (by omega : q < (chosen xs ns).length), e, List.append_assoc]
  rfl

set_option maxRecDepth 10000 in
set_option maxHeartbeats 8000000 in
theorem cloneOf_c (n : Int) (os : List (Int × List Int)) (k size : Nat) (h1 : 1 ≤ n) (h8 : n ≤ 8) (hk1 : 1 ≤ k) (hk3 : k ≤ 3) (hs : pw n k = size) (h27 : size ≤ 27) (ho : ∀ f ∈ os, opB n f.1 f.2 = true) (hol : os.length ≤ 1024) :
    Spec Try.prog 167 [vint n, vsl 2 (fun y : Int × (List Int) => [vint y.1, vsl 1 (fun x : Int => [vint x]) y.2]) os, vint (k : Int)] [] (CloneRes (cloneR n size os 62 (initC n k size k) (-1))) := by
  have hpow2 := power_c n k (by omega) (by omega) hk3
  rw [hs] at hpow2
  obtain ⟨R, hR⟩ : ∃ R, cloneR n size os 62 (initC n k size k) (-1) = R := ⟨_, rfl⟩
  rw [hR]
  refine Spec.of_run2 (n := 106) Try.func167 rfl Try.results167 Try.ntmps167 rfl ?_
  repeat' (first | (with_reducible refine RL.done ?_) | (with_reducible refine RL.wanted ?_ ?_; exact rfl) | ((with_reducible show RH _ _ _ ⟨some 18, .makeMap _ _, _, _, _, _⟩ _ _ _ _); (refine RH.makeSet rfl ?_); rintro _ _ ⟨b18, rfl, rfl⟩) | ((with_reducible show RH _ _ _ ⟨some 20, .box _ _, _, _, _, _⟩ _ _ _ _); (refine RH.boxAgg rfl rfl ?_; rintro _ _ ⟨b20, rfl, rfl⟩)) | ((with_reducible show RH _ _ _ _ _ _ _ _); refine RH.val (hK := ?_)) | (with_reducible first | refine Run.seq ?_ | refine Run.region ?_ | refine Run.block ?_) | (with_reducible refine seqN (K := Run _ _ _ _) ?_))
  refine Run.sent (T := [hcells b20 [vlit (vsv (none, 0, 0)), vlit (vsv (none, 0, 0)), vmap b18], hsl tRow (vsv (none, 0, 0)) [], hsl (tPair tInt (tS tInt)) (vsv (none, 0, 0)) [], hset b18 []]) (((SEnt.nil tRow _).trans (SEnt.nil (tPair tInt (tS tInt)) _)).trans (SEnt.ch (.cons (.tail (.tail .head)) rfl (.cons (.tail .head) rfl chA)))) ?_
  refine Run.loop (α := Nat × Sv × Sv) (fun x => [(0, vint n), (1, vsl 2 (fun y : Int × (List Int) => [vint y.1, vsl 1 (fun x : Int => [vint x]) y.2]) os), (2, vint (k : Int)), (8, vptr b20 0), (9, vint (x.1 : Int))]) (fun x => [hcells b20 [vlit (vsv x.2.1), vlit (vsv x.2.2), vmap b18], hsl tRow (vsv x.2.1) (initC n k size x.1).1, hsl (tPair tInt (tS tInt)) (vsv x.2.2) (initC n k size x.1).2, hset b18 (List.map keyS (initC n k size x.1).1)]) (fun x => x.1 ≤ k) (fun x => k - x.1) (0, (none, 0, 0), (none, 0, 0)) (by simp) (Ent.of slA (.cons .head rfl (.cons .head rfl (.cons .head rfl (.cons .head rfl .nil))))) ?_
  rintro ⟨p, s1, s2⟩ hp
  dsimp only at hp ⊢
  obtain ⟨hci, hcl, hcp⟩ := initC_inv (k := k) (size := size) h1 p hp
  have hcs := hci.stp
  rcases Nat.lt_or_eq_of_le hp with h9 | rfl
  · have hkey := hci.key h8 (projL_el n k p size h1 h9)
    repeat' (first | (with_reducible refine RL.done ?_) | (with_reducible refine RL.wanted ?_ ?_; exact rfl) | ((with_reducible show RH _ _ _ ⟨some 32, .buildSlice _ _ _, _, _, _, _⟩ _ _ _ _); refine RH.eff rfl rfl (EOpS.e (EOpS.slit (fun x : Int => [vint x]) _ (fun _ _ => rfl) (by repeat (first | exact Elts.nil | (apply Elts.cons; exact rfl; exact CellsOf.one))) rfl rfl)) ?_; rintro _ _ ⟨b32, rfl, rfl⟩; refine RL.frzA rfl ?_) | ((with_reducible show RH _ _ _ ⟨_, .call ⟨.value (.func 180), _, _⟩, _, _, _, _⟩ _ _ _ _); refine RH.cP Try.call180 ?_; refine ⟨_, projection_c n k p size (by omega) (by omega) (by omega) (by omega) hs (by omega), ?_⟩; rintro _ _ ⟨s, rfl, rfl⟩; refine RL.app1 ?_; refine RL.frzI ?_) | ((with_reducible show RH _ _ _ ⟨_, .call ⟨.value (.func 205), _, _⟩, _, _, _, _⟩ _ _ _ _); refine RH.cW Try.call205 ?_; refine ⟨_, _, _, (by repeat (first | exact Pick.nil | (apply Pick.cons; (with_reducible repeat (first | exact Rem.head | apply Rem.tail))))), add_c b20 b18 s1 s2 (initC n k size p) (projL n k p size) (-1) [(p : Int)] (by omega) (by omega) (by rw [projL_length]; omega) (by simp) hkey, ?_⟩; rintro _ _ ⟨u1, u2, rfl, rfl⟩; refine RL.nm ?_) | ((with_reducible show RH _ _ _ _ _ _ _ _); refine RH.val (hK := ?_)) | (with_reducible first | refine Run.seq ?_ | refine Run.region ?_ | refine Run.block ?_ | refine Run.skip ?_ | refine Run.exit ?_) | (with_reducible show Run _ _ (.cond _ _ _) _ _ _; refine Run.condD rfl (fun h => ?_) (fun h => ?_)) | (with_reducible first | refine seqN (K := Run _ _ _ _) ?_ | refine seqE ?_ | refine blockN ?_ | refine blockE ?_))
    · with_reducible refine seqN ?_
      exact ⟨(p + 1, u1, u2), by simp; omega, by simp; omega, Ent.of slA (.cons .head rfl (.cons .head rfl (.cons .head rfl (.cons .head rfl .nil))))⟩
    · exfalso; omega
  · have hcp := hcp hk1
    repeat' (first | (with_reducible refine RL.done ?_) | (with_reducible refine RL.wanted ?_ ?_; exact rfl) | ((with_reducible show RH _ _ _ _ _ _ _ _); refine RH.val (hK := ?_)) | (with_reducible first | refine Run.seq ?_ | refine Run.region ?_ | refine Run.block ?_ | refine Run.skip ?_ | refine Run.exit ?_) | (with_reducible show Run _ _ (.cond _ _ _) _ _ _; refine Run.condD rfl (fun h => ?_) (fun h => ?_)) | (with_reducible first | refine seqN (K := Run _ _ _ _) ?_ | refine seqE ?_ | refine blockE ?_))
    · exfalso; omega
    · refine Run.loop (α := Int × Sv × Sv × CS × Nat) (fun x => [(0, vint n), (1, vsl 2 (fun y : Int × (List Int) => [vint y.1, vsl 1 (fun x : Int => [vint x]) y.2]) os), (2, vint (p : Int)), (8, vptr b20 0), (10, vint x.1)]) (fun x => [hcells b20 [vlit (vsv x.2.1), vlit (vsv x.2.2.1), vmap b18], hsl tRow (vsv x.2.1) x.2.2.2.1.1, hsl (tPair tInt (tS tInt)) (vsv x.2.2.1) x.2.2.2.1.2, hset b18 (List.map keyS x.2.2.2.1.1)])
        (fun x => cloneR n size os x.2.2.2.2 x.2.2.2.1 x.1 = R ∧ 61 - x.1 ≤ (x.2.2.2.2 : Int) ∧ CInv n size x.2.2.2.1 ∧ 1 ≤ x.2.2.2.1.1.length ∧ x.2.2.2.1.1.length ≤ 60 ∧ -1 ≤ x.1) (fun x => x.2.2.2.2) (-1, s1, s2, initC n p size p, 62) ⟨hR, by dsimp only; omega, hci, hcp, by dsimp only; omega, by dsimp only; omega⟩ (Ent.of slA chA) ?_
      rintro ⟨old, s1, s2, c, f⟩ ⟨hrun, hf, hci, hc1, hc60, hold⟩
      dsimp only at hrun hf hci hc1 hc60 hold ⊢
      have hcs := hci.stp
      by_cases hlt : old < (c.1.length : Int)
      · obtain ⟨f, rfl⟩ : ∃ g, f = g + 1 := ⟨f - 1, by omega⟩
        rw [cloneR, if_pos hlt] at hrun
        repeat' (first | (with_reducible refine RL.done ?_) | (with_reducible refine RL.wanted ?_ ?_; exact rfl) | ((with_reducible show RH _ _ _ _ _ _ _ _); refine RH.val (hK := ?_)) | (with_reducible first | refine Run.seq ?_ | refine Run.region ?_ | refine Run.block ?_ | refine Run.skip ?_ | refine Run.exit ?_ | refine Run.ret ?_) | (with_reducible show Run _ _ (.cond _ _ _) _ _ _; refine Run.condD rfl (fun h => ?_) (fun h => ?_)) | (with_reducible first | refine seqN (K := Run _ _ _ _) ?_ | refine seqE ?_ | refine blockE ?_))
        · refine Run.loop (α := Nat × Sv × Sv × CS) (fun x => [(0, vint n), (1, vsl 2 (fun y : Int × (List Int) => [vint y.1, vsl 1 (fun x : Int => [vint x]) y.2]) os), (2, vint (p : Int)), (8, vptr b20 0), (10, vint (c.1.length : Int)), (46, vsl 2 (fun y : Int × (List Int) => [vint y.1, vsl 1 (fun x : Int => [vint x]) y.2]) os), (47, vint (os.length : Int)), (48, vint (x.1 : Int))]) (fun x => [hcells b20 [vlit (vsv x.2.1), vlit (vsv x.2.2.1), vmap b18], hsl tRow (vsv x.2.1) x.2.2.2.1, hsl (tPair tInt (tS tInt)) (vsv x.2.2.1) x.2.2.2.2, hset b18 (List.map keyS x.2.2.2.1)])
            (fun x => x.1 ≤ os.length ∧ ((os.zipIdx.drop x.1).foldlM (opL n size c.1.length) x.2.2.2).bind (fun c' => cloneR n size os f c' (c.1.length : Int)) = R ∧ CInv n size x.2.2.2 ∧ x.2.2.2.1.length ≤ 60 ∧ c.1.length ≤ x.2.2.2.1.length) (fun x => os.length - x.1) (0, s1, s2, c) ⟨Nat.zero_le _, hrun, hci, hc60, Nat.le_refl _⟩ (Ent.of slA chA) ?_
          rintro ⟨j, w1, w2, c1⟩ ⟨hj, hrj, hi1, h601, hK1⟩
          dsimp only at hj hrj hi1 h601 hK1 ⊢
          have hcs1 := hi1.stp
          rcases Nat.lt_or_eq_of_le hj with hj9 | rfl
          · have hoj := ho _ (List.getElem_mem hj9)
            have hob := hoj
            simp only [opB, Bool.and_eq_true, decide_eq_true_eq] at hob
            have hdrop : os.zipIdx.drop j = (os[j], j) :: os.zipIdx.drop (j + 1) := by
              rw [List.drop_eq_getElem_cons (by simpa using hj9)]; simp
            rw [hdrop, List.foldlM_cons] at hrj
            have hkf : ((os[j].1.toNat : Nat) : Int) = os[j].1 := by omega
            have hpow1 := power_c (c.1.length : Int) os[j].1.toNat (by omega) (by omega) (by omega)
            have hpb := pw_bound (c.1.length : Int) (by omega) (by omega) os[j].1.toNat (by omega)
            rw [hkf] at hpow1
            repeat' (first | (with_reducible refine RL.done ?_) | (with_reducible refine RL.wanted ?_ ?_; exact rfl) | ((with_reducible show RH _ _ _ ⟨some 55, .makeSlice _ _ _, _, _, _, _⟩ _ _ _ _); refine RH.makeZ (α := List Int) rfl (fun t : List Int => [vsl 1 (fun x : Int => [vint x]) t]) [] row_nil rfl rfl (by omega) (by omega) ?_; rintro _ _ ⟨b55, rfl, rfl⟩) | ((with_reducible show RH _ _ _ ⟨some 12, .alloc _, _, _, _, _⟩ _ _ _ _); refine RH.alloc rfl ?_; rintro _ _ ⟨b12, rfl, rfl⟩) | ((with_reducible show RH _ _ _ _ _ _ _ _); first | refine RH.val (hK := ?_) | refine RH.upd (hK := ?_)) | (with_reducible first | refine Run.seq ?_ | refine Run.region ?_ | refine Run.block ?_ | refine Run.skip ?_ | refine Run.exit ?_) | (with_reducible show Run _ _ (.cond _ _ _) _ _ _; refine Run.condD rfl (fun h => ?_) (fun h => ?_)) | (with_reducible first | refine seqN (K := Run _ _ _ _) ?_ | refine seqE ?_ | refine blockN ?_ | refine blockE ?_))
            · refine Run.loop (α := Nat × Sv × Sv × CS × List (List Int)) (fun x => [(0, vint n), (1, vsl 2 (fun y : Int × (List Int) => [vint y.1, vsl 1 (fun x : Int => [vint x]) y.2]) os), (2, vint (p : Int)), (8, vptr b20 0), (10, vint (c.1.length : Int)), (11, vint (j : Int)), (12, vptr b12 0), (13, vsb b55 os[j].1.toNat os[j].1.toNat), (14, vint (x.1 : Int)), (46, vsl 2 (fun y : Int × (List Int) => [vint y.1, vsl 1 (fun x : Int => [vint x]) y.2]) os), (47, vint (os.length : Int)), (48, vint (j : Int))])
                (fun x => [harr b55 1 (fun t : List Int => [vsl 1 (fun x : Int => [vint x]) t]) x.2.2.2.2 (os[j].1.toNat * 1), hcells b12 [vint os[j].1, vsl 1 (fun x : Int => [vint x]) os[j].2], hcells b20 [vlit (vsv x.2.1), vlit (vsv x.2.2.1), vmap b18], hsl tRow (vsv x.2.1) x.2.2.2.1.1, hsl (tPair tInt (tS tInt)) (vsv x.2.2.1) x.2.2.2.1.2, hset b18 (List.map keyS x.2.2.2.1.1)])
                (fun x => x.1 ≤ many c.1.length os[j] ∧ ((List.range' x.1 (many c.1.length os[j] - x.1)).foldlM (stepO n size os[j] j c.1.length) x.2.2.2.1).bind (fun c2 => ((os.zipIdx.drop (j + 1)).foldlM (opL n size c.1.length) c2).bind (fun c' => cloneR n size os f c' (c.1.length : Int))) = R ∧ CInv n size x.2.2.2.1 ∧ x.2.2.2.1.1.length ≤ 60 ∧ c.1.length ≤ x.2.2.2.1.1.length ∧ x.2.2.2.2.length = os[j].1.toNat) (fun x => many c.1.length os[j] - x.1) (0, w1, w2, c1, List.replicate os[j].1.toNat []) ⟨Nat.zero_le _, by rw [← hrj]; exact (Option.bind_assoc _ _ _).symm, hi1, h601, hK1, by simp⟩ (Ent.of slA chA) ?_
              rintro ⟨i, v1, v2, c2, A⟩ ⟨hi, hri, hi2, h602, hK2, hA⟩
              dsimp only at hi hri hi2 h602 hK2 hA ⊢
              have hcs2 := hi2.stp
              have hM : ((many c.1.length os[j] : Nat) : Int) = pw (c.1.length : Int) os[j].1.toNat := by rw [many]; omega
              rcases Nat.lt_or_eq_of_le hi with hi9 | rfl
              · have hrg : List.range' i (many c.1.length os[j] - i) = i :: List.range' (i + 1) (many c.1.length os[j] - (i + 1)) := by
                  rw [show many c.1.length os[j] - i = (many c.1.length os[j] - (i + 1)) + 1 by omega, List.range'_succ]
                rw [hrg, List.foldlM_cons] at hri
                have hargs := argsAt_c (i : Int) (c.1.length : Int) os[j].1.toNat (by omega) (by omega) (by omega) (by omega)
                rw [hkf] at hargs
                have hll := lowd_length (i : Int) (c.1.length : Int) os[j].1.toNat
                have hnum : ∀ x ∈ lowd (i : Int) (c.1.length : Int) os[j].1.toNat, 0 ≤ x ∧ x.toNat < c2.1.length := fun x hx => by
                  have := lowd_range' (i : Int) (c.1.length : Int) (by omega) (by omega) _ x hx
                  omega
                have hap := opAp hi2 h1 h8 h27 hoj hll hnum
                have hap2 := hap
                repeat' (first | (with_reducible first | refine RL.done ?_ | refine RL.app0 ?_) | (with_reducible refine RL.wanted ?_ ?_; exact rfl) | ((with_reducible show RH _ _ _ ⟨_, .call ⟨.value (.func 144), _, _⟩, _, _, _, _⟩ _ _ _ _); refine RH.cP Try.call144 ?_; refine ⟨_, hpow1, ?_⟩; rintro _ _ ⟨rfl, rfl⟩) | ((with_reducible show RH _ _ _ ⟨_, .call ⟨.value (.func 145), _, _⟩, _, _, _, _⟩ _ _ _ _); refine RH.cP Try.call145 ?_; refine ⟨_, hargs, ?_⟩; rintro _ _ ⟨s, rfl, rfl⟩; refine RL.app1 ?_; refine RL.frzI ?_) | ((with_reducible show RH _ _ _ _ _ _ _ _); refine RH.val (hK := ?_)) | (with_reducible first | refine Run.seq ?_ | refine Run.region ?_ | refine Run.block ?_ | refine Run.skip ?_ | refine Run.exit ?_) | (with_reducible show Run _ _ (.cond _ _ _) _ _ _; refine Run.condD rfl (fun h => ?_) (fun h => ?_)) | (with_reducible first | refine seqN (K := Run _ _ _ _) ?_ | refine seqE ?_ | refine blockN ?_ | refine blockE ?_))
                · refine Run.loop (α := Nat) (fun q => [(0, vint n), (1, vsl 2 (fun y : Int × (List Int) => [vint y.1, vsl 1 (fun x : Int => [vint x]) y.2]) os), (2, vint (p : Int)), (8, vptr b20 0), (10, vint (c.1.length : Int)), (11, vint (j : Int)), (12, vptr b12 0), (13, vsb b55 os[j].1.toNat os[j].1.toNat), (14, vint (i : Int)), (15, vsl 1 (fun x : Int => [vint x]) ((lowd (i : Int) (c.1.length : Int) os[j].1.toNat))), (46, vsl 2 (fun y : Int × (List Int) => [vint y.1, vsl 1 (fun x : Int => [vint x]) y.2]) os), (47, vint (os.length : Int)), (48, vint (j : Int)), (69, vsl 1 (fun x : Int => [vint x]) ((lowd (i : Int) (c.1.length : Int) os[j].1.toNat))), (70, vint ((lowd (i : Int) (c.1.length : Int) os[j].1.toNat).length : Int)), (71, vint (q : Int))])
                    (fun q => [harr b55 1 (fun t : List Int => [vsl 1 (fun x : Int => [vint x]) t]) ((chosen c2.1 (lowd (i : Int) (c.1.length : Int) os[j].1.toNat)).take q ++ A.drop q) (os[j].1.toNat * 1), hcells b12 [vint os[j].1, vsl 1 (fun x : Int => [vint x]) os[j].2], hcells b20 [vlit (vsv v1), vlit (vsv v2), vmap b18], hsl tRow (vsv v1) c2.1, hsl (tPair tInt (tS tInt)) (vsv v2) c2.2, hset b18 (List.map keyS c2.1)])
                    (fun q => q ≤ (lowd (i : Int) (c.1.length : Int) os[j].1.toNat).length) (fun q => (lowd (i : Int) (c.1.length : Int) os[j].1.toNat).length - q) 0 (by simp) (Ent.of slA (.cons .head (by simp) chA)) ?_
                  intro q hq
                  have hcl2 : (chosen c2.1 (lowd (i : Int) (c.1.length : Int) os[j].1.toNat)).length = os[j].1.toNat := by simp [chosen, hll]
                  have hAl : ((chosen c2.1 (lowd (i : Int) (c.1.length : Int) os[j].1.toNat)).take q ++ A.drop q).length = os[j].1.toNat := by simp [hcl2]; omega
                  rcases Nat.lt_or_eq_of_le hq with hq9 | rfl
                  · have hxq := hnum _ (List.getElem_mem hq9)
                    have hput := chosen_put (xs := c2.1) (A := A) hq9 (by omega) hxq.2
                    repeat' (first | (with_reducible refine RL.done ?_) | (with_reducible refine RL.wanted ?_ ?_; exact rfl) | ((with_reducible show Run _ _ (.region 22 _ true) _ _ _); refine Run.regionD (fun i => false) rfl ?_; change RD _ _ _ _ _ _ 11 (dm 11 0) _ _) | ((with_reducible show RD _ _ 22 _ _ _ _ _ _ _); first | ((with_reducible show RD _ _ _ _ _ _ _ (dm 11 0) _ _); refine RD.tk 0 (dm 11 1024) (dm 11 1) (hK := ?_)) | ((with_reducible show RD _ _ _ _ _ _ _ (dm 11 1) _ _); refine RD.tk 1 (dm 11 1152) (dm 11 3) (hK := ?_)) | ((with_reducible show RD _ _ _ _ _ _ _ (dm 11 3) _ _); refine RD.tk 2 (dm 11 1152) (dm 11 7) (hK := ?_)) | ((with_reducible show RD _ _ _ _ _ _ _ (dm 11 7) _ _); refine RD.tk 3 (dm 11 1152) (dm 11 15) (hK := ?_)) | ((with_reducible show RD _ _ _ _ _ _ _ (dm 11 15) _ _); refine RD.tk 4 (dm 11 1216) (dm 11 31) (hK := ?_)) | ((with_reducible show RD _ _ _ _ _ _ _ (dm 11 31) _ _); refine RD.tk 5 (dm 11 1216) (dm 11 63) (hK := ?_)) | ((with_reducible show RD _ _ _ _ _ _ _ (dm 11 63) _ _); refine RD.tk 8 (dm 11 1024) (dm 11 319) (hK := ?_)) | ((with_reducible show RD _ _ _ _ _ _ _ (dm 11 319) _ _); refine RD.tk 9 (dm 11 1024) (dm 11 831) (hK := ?_)) | ((with_reducible show RD _ _ _ _ _ _ _ (dm 11 831) _ _); refine RD.a1 6 ?_)) | ((with_reducible show RH _ _ _ _ _ _ _ _); first | refine RH.val (hK := ?_) | refine RH.upd (hK := ?_)) | (with_reducible first | refine Run.seq ?_ | refine Run.region ?_ | refine Run.block ?_ | refine Run.skip ?_ | refine Run.exit ?_) | (with_reducible show Run _ _ (.cond _ _ _) _ _ _; refine Run.condD rfl (fun h => ?_) (fun h => ?_)) | (with_reducible first | refine seqN (K := Run _ _ _ _) ?_ | refine seqE ?_ | refine blockN ?_ | refine blockE ?_))
                    · with_reducible refine seqN ?_
                      exact ⟨q + 1, by omega, by omega, Ent.of slA (.cons .head (congrArg (fun ys => harr b55 1 (fun t : List Int => [vsl 1 (fun x : Int => [vint x]) t]) ys (os[j].1.toNat * 1)) hput) chA)⟩
                    · exfalso; omega
                  · have hAe : (chosen c2.1 (lowd (i : Int) (c.1.length : Int) os[j].1.toNat)).take (lowd (i : Int) (c.1.length : Int) os[j].1.toNat).length ++ A.drop (lowd (i : Int) (c.1.length : Int) os[j].1.toNat).length = chosen c2.1 (lowd (i : Int) (c.1.length : Int) os[j].1.toNat) := by
                      rw [List.drop_of_length_le (by omega), List.append_nil, List.take_of_length_le (by omega)]
                    rw [hAe] at hAl ⊢
                    have htel := applyT_el hap (opB_tab hoj)
                    have hkey := hi2.key h8 htel
                    have hlen3 := addC_len c2 (applyT n os[j].2 (chosen c2.1 (lowd (i : Int) (c.1.length : Int) os[j].1.toNat)) size) ((j : Int), lowd (i : Int) (c.1.length : Int) os[j].1.toNat)
                    have hsome : (addC c2 (applyT n os[j].2 (chosen c2.1 (lowd (i : Int) (c.1.length : Int) os[j].1.toNat)) size) ((j : Int), lowd (i : Int) (c.1.length : Int) os[j].1.toNat)).1.length ≤ 60 → stepO n size os[j] j c.1.length c2 i = some (addC c2 (applyT n os[j].2 (chosen c2.1 (lowd (i : Int) (c.1.length : Int) os[j].1.toNat)) size) ((j : Int), lowd (i : Int) (c.1.length : Int) os[j].1.toNat)) := fun h => addO_some h
                    have hnone : ¬ (addC c2 (applyT n os[j].2 (chosen c2.1 (lowd (i : Int) (c.1.length : Int) os[j].1.toNat)) size) ((j : Int), lowd (i : Int) (c.1.length : Int) os[j].1.toNat)).1.length ≤ 60 → stepO n size os[j] j c.1.length c2 i = none := fun h => addO_none h602 h
                    have hi3 := hi2.add (st := ((j : Int), lowd (i : Int) (c.1.length : Int) os[j].1.toNat)) (applyT_length n os[j].2 (chosen c2.1 (lowd (i : Int) (c.1.length : Int) os[j].1.toNat)) size) htel
                    repeat' (first | (with_reducible first | refine RL.done ?_ | refine RD.app0 ?_) | (with_reducible refine RL.wanted ?_ ?_; exact rfl) | ((with_reducible show Run _ _ (.region 22 _ true) _ _ _); refine Run.regionD (fun i => i == 10) rfl ?_; change RD _ _ _ _ _ _ 11 (dm 11 0) _ _) | ((with_reducible show RD _ _ 22 _ _ _ _ _ _ _); first | ((with_reducible show RD _ _ _ _ _ _ _ (dm 11 0) _ _); refine RD.tk 0 (dm 11 1024) (dm 11 1) (hK := ?_)) | ((with_reducible show RD _ _ _ _ _ _ _ (dm 11 1) _ _); refine RD.tk 1 (dm 11 1152) (dm 11 3) (hK := ?_)) | ((with_reducible show RD _ _ _ _ _ _ _ (dm 11 3) _ _); refine RD.tk 2 (dm 11 1152) (dm 11 7) (hK := ?_)) | ((with_reducible show RD _ _ _ _ _ _ _ (dm 11 7) _ _); refine RD.tk 3 (dm 11 1152) (dm 11 15) (hK := ?_)) | ((with_reducible show RD _ _ _ _ _ _ _ (dm 11 15) _ _); refine RD.tk 4 (dm 11 1216) (dm 11 31) (hK := ?_)) | ((with_reducible show RD _ _ _ _ _ _ _ (dm 11 31) _ _); refine RD.tk 5 (dm 11 1216) (dm 11 63) (hK := ?_)) | ((with_reducible show RD _ _ _ _ _ _ _ (dm 11 63) _ _); refine RD.tk 8 (dm 11 1024) (dm 11 319) (hK := ?_)) | ((with_reducible show RD _ _ _ _ _ _ _ (dm 11 319) _ _); refine RD.tk 9 (dm 11 1024) (dm 11 831) (hK := ?_)) | ((with_reducible show RD _ _ _ _ _ _ _ (dm 11 831) _ _); refine RD.a1 6 ?_) | ((with_reducible show RD _ _ _ _ _ _ _ (dm 11 895) _ _); refine RD.a1 7 ?_) | ((with_reducible show RD _ _ _ _ _ _ _ (dm 11 1023) _ _); refine RD.a1 10 ?_) | ((with_reducible show RD _ _ _ _ _ _ 0 _ _ _); refine RD.done (by kernel_rfl) ?_)) | ((with_reducible show RO _ _ 22 _ _ _ _ _ _ _ _); first | ((with_reducible show RO _ _ _ _ _ _ _ (dm 11 831) 6 _ _); (refine RO.cP (dm 11 895) Try.call144 ?_; refine ⟨_, hpow2, ?_⟩; rintro _ _ ⟨rfl, rfl⟩)) | ((with_reducible show RO _ _ _ _ _ _ _ (dm 11 895) 7 _ _); (refine RO.cL (dm 11 1023) Try.call178 ?_; apply Exists.intro; apply And.intro; (focus ((repeat (first | exact LVs.nil | (apply LVs.arr; (with_reducible repeat (exact Has.head)); (omega); exact rfl) | apply LVs.agg | apply LVs.refl)); done)); refine ⟨_, composeTables_c n os[j].1 os[j].2 _ size hap, (by intro r H h; first | (obtain ⟨rfl, rfl⟩ := h; exact ⟨inferInstance, inferInstance⟩) | (obtain ⟨_, rfl, rfl⟩ := h; exact ⟨inferInstance, inferInstance⟩) | (obtain ⟨_, _, rfl, rfl⟩ := h; exact ⟨inferInstance, inferInstance⟩) | (obtain ⟨_, _, rfl, rfl, _⟩ := h; exact ⟨inferInstance, inferInstance⟩)), ?_⟩; rintro _ _ ⟨s, rfl, rfl⟩; refine RD.app1 ?_; refine RD.frzI ?_)) | ((with_reducible show RO _ _ _ _ _ _ _ (dm 11 1023) 10 _ _); (refine RO.h (dm 11 2047) ?_; show RH _ _ _ ⟨_, _, _, _, _, _⟩ _ _ _ _))) | ((with_reducible show RH _ _ _ ⟨_, .call ⟨.value (.func 205), _, _⟩, _, _, _, _⟩ _ _ _ _); refine RH.cW Try.call205 ?_; refine ⟨_, _, _, (by repeat (first | exact Pick.nil | (apply Pick.cons; (with_reducible repeat (first | exact Rem.head | apply Rem.tail))))), add_c b20 b18 v1 v2 c2 _ (j : Int) _ (by omega) (by omega) (by rw [applyT_length]; omega) (by omega) hkey, ?_⟩; rintro _ _ ⟨u1, u2, rfl, rfl⟩; refine RL.nm ?_) | ((with_reducible show RH _ _ _ _ _ _ _ _); first | refine RH.val (hK := ?_) | refine RH.upd (hK := ?_)) | (with_reducible first | refine Run.seq ?_ | refine Run.region ?_ | refine Run.block ?_ | refine Run.skip ?_ | refine Run.exit ?_ | refine Run.ret ?_) | (with_reducible show Run _ _ (.cond _ _ _) _ _ _; refine Run.condD rfl (fun h => ?_) (fun h => ?_)) | (with_reducible first | refine seqN (K := Run _ _ _ _) ?_ | refine seqE ?_ | refine seqR ?_ | refine blockN ?_ | refine blockR ?_ | refine blockE ?_))
                    all_goals first
                      | (exfalso; omega)
                      | (with_reducible refine seqN ?_
                         exact ⟨(i + 1, u1, u2, addC c2 (applyT n os[j].2 (chosen c2.1 (lowd (i : Int) (c.1.length : Int) os[j].1.toNat)) size) ((j : Int), lowd (i : Int) (c.1.length : Int) os[j].1.toNat), chosen c2.1 (lowd (i : Int) (c.1.length : Int) os[j].1.toNat)), ⟨by (try dsimp only); omega, by rw [← hri, hsome (by omega)]; rfl, hi3, by (try dsimp only); omega, by (try dsimp only); omega, hcl2⟩, by (try dsimp only); omega, Ent.of slA chA⟩)
                      | (have hRn : (none : Option CS) = R := by rw [← hri, hnone (by omega)]; rfl
                         subst hRn
                         refine ⟨eA, _, [], resA, .ch .nil, ?_⟩; exact ⟨rfl, rfl⟩)
                · exfalso; omega
              · rw [Nat.sub_self] at hri
                repeat' (first | (with_reducible first | refine RL.done ?_ | refine RL.app0 ?_) | (with_reducible refine RL.wanted ?_ ?_; exact rfl) | ((with_reducible show RH _ _ _ ⟨_, .call ⟨.value (.func 144), _, _⟩, _, _, _, _⟩ _ _ _ _); refine RH.cP Try.call144 ?_; refine ⟨_, hpow1, ?_⟩; rintro _ _ ⟨rfl, rfl⟩) | ((with_reducible show RH _ _ _ _ _ _ _ _); refine RH.val (hK := ?_)) | (with_reducible first | refine Run.seq ?_ | refine Run.region ?_ | refine Run.block ?_ | refine Run.skip ?_ | refine Run.exit ?_) | (with_reducible show Run _ _ (.cond _ _ _) _ _ _; refine Run.condD rfl (fun h => ?_) (fun h => ?_)) | (with_reducible first | refine seqN (K := Run _ _ _ _) ?_ | refine seqE ?_ | refine blockN ?_ | refine blockE ?_))
                all_goals first
                  | (exfalso; omega)
                  | (with_reducible refine seqN ?_
                     exact ⟨(j + 1, v1, v2, c2), ⟨by (try dsimp only); omega, hri, hi2, h602, hK2⟩, by (try dsimp only); omega, Ent.of slA chA⟩)
            · exfalso; omega
          · rw [List.drop_of_length_le (by simp)] at hrj
            repeat' (first | (with_reducible refine RL.done ?_) | (with_reducible refine RL.wanted ?_ ?_; exact rfl) | ((with_reducible show RH _ _ _ ⟨some 12, .alloc _, _, _, _, _⟩ _ _ _ _); refine RH.alloc rfl ?_; rintro _ _ ⟨b12, rfl, rfl⟩) | ((with_reducible show RH _ _ _ _ _ _ _ _); first | refine RH.val (hK := ?_) | refine RH.upd (hK := ?_)) | (with_reducible first | refine Run.seq ?_ | refine Run.region ?_ | refine Run.block ?_ | refine Run.skip ?_ | refine Run.exit ?_) | (with_reducible show Run _ _ (.cond _ _ _) _ _ _; refine Run.condD rfl (fun h => ?_) (fun h => ?_)) | (with_reducible first | refine seqN (K := Run _ _ _ _) ?_ | refine seqE ?_ | refine blockN ?_ | refine blockE ?_))
            · exfalso; omega
            · with_reducible refine seqN ?_
              exact ⟨((c.1.length : Int), w1, w2, c1, f), ⟨hrj, by (try dsimp only); omega, hi1, by (try dsimp only); omega, h601, by (try dsimp only); omega⟩, by (try dsimp only); omega, Ent.of slA chA⟩
        · exfalso; omega
      · have hRc : some c = R := by
          rw [← hrun]
          cases f with
          | zero => rfl
          | succ f => rw [cloneR, if_neg hlt]
        subst hRc
        repeat' (first | (with_reducible refine RL.done ?_) | (with_reducible refine RL.wanted ?_ ?_; exact rfl) | ((with_reducible show RH _ _ _ _ _ _ _ _); refine RH.val (hK := ?_)) | (with_reducible first | refine Run.seq ?_ | refine Run.region ?_ | refine Run.block ?_ | refine Run.skip ?_ | refine Run.exit ?_ | refine Run.ret ?_) | (with_reducible show Run _ _ (.cond _ _ _) _ _ _; refine Run.condD rfl (fun h => ?_) (fun h => ?_)) | (with_reducible first | refine seqN (K := Run _ _ _ _) ?_ | refine seqE ?_ | refine blockE ?_))
        · exfalso; omega
        · refine ⟨eA, _, [hcells b20 [vlit (vsv s1), vlit (vsv s2), vmap b18], hsl tRow (vsv s1) c.1, hsl (tPair tInt (tS tInt)) (vsv s2) c.2, hset b18 (List.map keyS c.1)], resA, ?_, ?_⟩
          · exact SEnt.ch chA
          · exact ⟨b20, b18, s1, s2, rfl, rfl⟩

def cloneV (n : Int) (os : List (Int × List Int)) (k : Int) : Option CS := if algB n os && rangeB n k then cloneR n (pw n k.toNat).toNat os 62 (initC n k.toNat (pw n k.toNat).toNat k.toNat) (-1) else none
theorem cloneV_at {n : Int} {os : List (Int × List Int)} {k : Int} (ha : algB n os = true) (hr : rangeB n k = true) : ∃ m size : Nat, k = m ∧ 1 ≤ m ∧ m ≤ 3 ∧ pw n m = size ∧ size ≤ 27 ∧ cloneV n os k = cloneR n size os 62 (initC n m size m) (-1) := by
  have hr2 := hr
  simp only [rangeB, Bool.and_eq_true, decide_eq_true_eq] at hr
  obtain ⟨m, rfl⟩ : ∃ m : Nat, k = m := ⟨k.toNat, by omega⟩
  have h0 := pw_nonneg n (by have := algB_at ha; omega) m
  refine ⟨m, (pw n m).toNat, rfl, by omega, by omega, by omega, by simp at hr; omega, ?_⟩
  rw [cloneV, ha, hr2]; rfl
set_option maxRecDepth 10000 in
set_option maxHeartbeats 1000000 in
theorem termFunctions_c (n : Int) (os : List (Int × List Int)) (k : Int) (hl : os.length ≤ 4611686018427387904) (ho : OpsLen os) :
    Spec Try.prog 109 [vagg [vint n, vsl 2 (fun y : Int × (List Int) => [vint y.1, vsl 1 (fun x : Int => [vint x]) y.2]) os], vint k] [] (CloneRes (cloneV n os k)) := by
  have hA := isAlgebra_c n os hl ho
  have hB := isCloneRange_c n k
  refine Spec.of_run2 (n := 24) Try.func109 rfl Try.results109 Try.ntmps109 rfl ?_
  cases ha : algB n os with
  | false =>
    simp only [ha] at hA
    have e : cloneV n os k = none := by simp [cloneV, ha]
    rw [e]
    repeat' (first | (with_reducible first | refine RL.done ?_ | refine RL.app0 ?_) | (with_reducible refine RL.wanted ?_ ?_; exact rfl) | ((with_reducible show RH _ _ _ ⟨some 2, .box _ _, _, _, _, _⟩ _ _ _ _); (refine RH.boxAgg rfl rfl ?_; rintro _ _ ⟨b2, rfl, rfl⟩)) | ((with_reducible show RH _ _ _ ⟨_, .call ⟨.value (.func 96), _, _⟩, _, _, _, _⟩ _ _ _ _); refine RH.cP Try.call96 ?_; refine ⟨_, hA, ?_⟩; rintro _ _ ⟨rfl, rfl⟩) | ((with_reducible show RH _ _ _ _ _ _ _ _); refine RH.val (hK := ?_)) | (with_reducible show RL _ _ _ (_ :: _) _ _ _; refine RL.guardNoS rfl rfl rfl rfl rfl rfl ?_) | (with_reducible first | refine Run.seq ?_ | refine Run.region ?_ | refine Run.ret ?_) | (with_reducible show Run _ _ (.cond _ _ _) _ _ _; refine Run.condT rfl ?_) | (with_reducible first | refine seqN (K := Run _ _ _ _) ?_ | refine seqR ?_))
    refine ⟨eA, _, [], resA, .ch .nil, ?_⟩; exact ⟨rfl, rfl⟩
  | true =>
    simp only [ha] at hA
    obtain ⟨h1, h8, h4, hops⟩ := algB_at ha
    cases hr : rangeB n k with
    | false =>
      simp only [hr] at hB
      have e : cloneV n os k = none := by simp [cloneV, hr]
      rw [e]
      repeat' (first | (with_reducible first | refine RL.done ?_ | refine RL.app0 ?_) | (with_reducible refine RL.wanted ?_ ?_; exact rfl) | ((with_reducible show RH _ _ _ ⟨some 2, .box _ _, _, _, _, _⟩ _ _ _ _); (refine RH.boxAgg rfl rfl ?_; rintro _ _ ⟨b2, rfl, rfl⟩)) | ((with_reducible show RH _ _ _ ⟨_, .call ⟨.value (.func 96), _, _⟩, _, _, _, _⟩ _ _ _ _); refine RH.cP Try.call96 ?_; refine ⟨_, hA, ?_⟩; rintro _ _ ⟨rfl, rfl⟩) | ((with_reducible show RH _ _ _ ⟨_, .call ⟨.value (.func 166), _, _⟩, _, _, _, _⟩ _ _ _ _); refine RH.cP Try.call166 ?_; refine ⟨_, hB (by omega) (by omega), ?_⟩; rintro _ _ ⟨rfl, rfl⟩) | ((with_reducible show RH _ _ _ _ _ _ _ _); refine RH.val (hK := ?_)) | (with_reducible show RL _ _ _ (_ :: _) _ _ _; refine RL.guardYes rfl rfl rfl rfl ?_) | (with_reducible first | refine Run.seq ?_ | refine Run.region ?_ | refine Run.ret ?_) | (with_reducible show Run _ _ (.cond _ _ _) _ _ _; refine Run.condT rfl ?_) | (with_reducible first | refine seqN (K := Run _ _ _ _) ?_ | refine seqR ?_))
      refine ⟨eA, _, [], resA, .ch .nil, ?_⟩; exact ⟨rfl, rfl⟩
    | true =>
      simp only [hr] at hB
      obtain ⟨m, size, rfl, hm1, hm3, hs, h27, hv⟩ := cloneV_at ha hr
      rw [hv]
      have hC := cloneOf_c n os m size h1 h8 hm1 hm3 hs h27 hops (by omega)
      obtain ⟨o, ho2⟩ : ∃ o, cloneR n size os 62 (initC n m size m) (-1) = o := ⟨_, rfl⟩
      rw [ho2] at hC ⊢
      cases o with
      | none =>
        repeat' (first | (with_reducible first | refine RL.done ?_ | refine RL.app0 ?_) | (with_reducible refine RL.wanted ?_ ?_; exact rfl) | ((with_reducible show RH _ _ _ ⟨some 2, .box _ _, _, _, _, _⟩ _ _ _ _); (refine RH.boxAgg rfl rfl ?_; rintro _ _ ⟨b2, rfl, rfl⟩)) | ((with_reducible show RH _ _ _ ⟨_, .call ⟨.value (.func 96), _, _⟩, _, _, _, _⟩ _ _ _ _); refine RH.cP Try.call96 ?_; refine ⟨_, hA, ?_⟩; rintro _ _ ⟨rfl, rfl⟩) | ((with_reducible show RH _ _ _ ⟨_, .call ⟨.value (.func 166), _, _⟩, _, _, _, _⟩ _ _ _ _); refine RH.cP Try.call166 ?_; refine ⟨_, hB (by omega) (by omega), ?_⟩; rintro _ _ ⟨rfl, rfl⟩) | ((with_reducible show RH _ _ _ ⟨_, .call ⟨.value (.func 167), _, _⟩, _, _, _, _⟩ _ _ _ _); refine RH.cP Try.call167 ?_; refine ⟨_, hC, ?_⟩; rintro _ _ ⟨rfl, rfl⟩) | ((with_reducible show RH _ _ _ _ _ _ _ _); refine RH.val (hK := ?_)) | (with_reducible show RL _ _ _ (_ :: _) _ _ _; refine RL.guardYes rfl rfl rfl rfl ?_) | (with_reducible first | refine Run.seq ?_ | refine Run.region ?_ | refine Run.skip ?_ | refine Run.ret ?_) | (with_reducible show Run _ _ (.cond _ _ _) _ _ _; refine Run.condF rfl ?_) | (with_reducible refine seqN (K := Run _ _ _ _) ?_))
        refine ⟨eA, _, [], resA, .ch .nil, ?_⟩; exact ⟨rfl, rfl⟩
      | some c =>
        repeat' (first | (with_reducible first | refine RL.done ?_ | refine RL.app0 ?_ | refine RL.app4 ?_) | (with_reducible refine RL.wanted ?_ ?_; exact rfl) | ((with_reducible show RH _ _ _ ⟨some 2, .box _ _, _, _, _, _⟩ _ _ _ _); (refine RH.boxAgg rfl rfl ?_; rintro _ _ ⟨b2, rfl, rfl⟩)) | ((with_reducible show RH _ _ _ ⟨_, .call ⟨.value (.func 96), _, _⟩, _, _, _, _⟩ _ _ _ _); refine RH.cP Try.call96 ?_; refine ⟨_, hA, ?_⟩; rintro _ _ ⟨rfl, rfl⟩) | ((with_reducible show RH _ _ _ ⟨_, .call ⟨.value (.func 166), _, _⟩, _, _, _, _⟩ _ _ _ _); refine RH.cP Try.call166 ?_; refine ⟨_, hB (by omega) (by omega), ?_⟩; rintro _ _ ⟨rfl, rfl⟩) | ((with_reducible show RH _ _ _ ⟨_, .call ⟨.value (.func 167), _, _⟩, _, _, _, _⟩ _ _ _ _); refine RH.cP Try.call167 ?_; refine ⟨_, hC, ?_⟩; rintro _ _ ⟨bc, bm, s1, s2, rfl, rfl⟩) | ((with_reducible show RH _ _ _ _ _ _ _ _); refine RH.val (hK := ?_)) | (with_reducible show RL _ _ _ (_ :: _) _ _ _; refine RL.guardYes rfl rfl rfl rfl ?_) | (with_reducible first | refine Run.seq ?_ | refine Run.region ?_ | refine Run.skip ?_ | refine Run.ret ?_) | (with_reducible show Run _ _ (.cond _ _ _) _ _ _; refine Run.condF rfl ?_) | (with_reducible refine seqN (K := Run _ _ _ _) ?_))
        refine ⟨eA, _, [hcells bc [vlit (vsv s1), vlit (vsv s2), vmap bm], hsl tRow (vsv s1) c.1, hsl (tPair tInt (tS tInt)) (vsv s2) c.2, hset bm (List.map keyS c.1)], resA, ?_, ?_⟩
        · exact SEnt.ch chA
        · exact ⟨bc, bm, s1, s2, rfl, rfl⟩
end Go.Proofs.Ytejeeokjjbiadaa
