/- The row of a function: spec.l15Row, impl.rowOf: the same list. Proved for this program; conditions: 1 to 4 elements, patterns of the function's arity, a table for each list of arguments. -/
import Derived.Test.YtiifdhdhjioefaaRowFn
import Derived.Test.YtiifdhdhjioefaaObey
namespace Go.Proofs.Ytiifdhdhjioefaa
open Go Go.Proofs
set_option linter.unusedVariables false

def cellXZ (N : Nat) (tb p : List Int) (x z : Nat) : Int := tb.getD (hor N (comp p [(x : Int), (z : Int)])).toNat 0
def rowX (N : Nat) (tb p : List Int) (x m : Nat) : List Int := (List.range m).map (cellXZ N tb p x)
def rowsX (N : Nat) (tb p : List Int) (m : Nat) : List Int := (List.range m).flatMap fun x => rowX N tb p x N
def rowAll (N : Nat) (tb : List Int) (ps : List (List Int)) : List Int := ps.flatMap fun p => rowsX N tb p N
theorem rowX_succ (N : Nat) (tb p : List Int) (x m : Nat) : rowX N tb p x (m + 1) = rowX N tb p x m ++ [cellXZ N tb p x m] := by simp [rowX, List.range_succ]
theorem rowsX_succ (N : Nat) (tb p : List Int) (m : Nat) : rowsX N tb p (m + 1) = rowsX N tb p m ++ rowX N tb p m N := by simp [rowsX, List.range_succ]
theorem rowAll_succ (N : Nat) (tb : List Int) (ps : List (List Int)) (j : Nat) (h : j < ps.length) : rowAll N tb (ps.take (j + 1)) = rowAll N tb (ps.take j) ++ rowsX N tb ps[j] N := by
  rw [rowAll, List.take_add_one, List.getElem?_eq_getElem h, List.flatMap_append]; simp [rowAll]
theorem rowX_len (N : Nat) (tb p : List Int) (x m : Nat) : (rowX N tb p x m).length = m := by simp [rowX]
theorem rowsX_len (N : Nat) (tb p : List Int) (m : Nat) : (rowsX N tb p m).length = m * N := by
  induction m with
  | zero => simp [rowsX]
  | succ m ih => rw [rowsX_succ, List.length_append, ih, rowX_len, Nat.succ_mul]
theorem rowAll_len (N : Nat) (hN : N ≤ 4) (tb : List Int) (ps : List (List Int)) : (rowAll N tb ps).length ≤ ps.length * 16 := by
  induction ps with
  | nil => simp [rowAll]
  | cons p ps ih =>
    have h1 : N * N ≤ 4 * 4 := Nat.mul_le_mul hN hN
    have h2 : rowAll N tb (p :: ps) = rowsX N tb p N ++ rowAll N tb ps := by simp [rowAll]
    rw [h2, List.length_append, rowsX_len, List.length_cons, Nat.succ_mul]; omega
def PatOk (a : Int) (l : List (List Int)) : Prop := ∀ t ∈ l, (t.length : Int) = a ∧ elB 2 t = true
theorem addP_ok {a : Int} {l : List (List Int)} {p : List Int} (h : PatOk a l) (hp : (p.length : Int) = a ∧ elB 2 p = true) : PatOk a (addP l p) := by
  unfold addP; split
  · intro t ht
    rcases List.mem_append.1 ht with h1 | h1
    · exact h t h1
    · simp at h1; subst h1; exact hp
  · exact h
theorem condB_left {a : Int} {rs : List (List Int × List Int)} (h : condB a rs = true) : ∀ y ∈ rs, elB 2 y.1 = true := fun y hy => by
  simp only [condB, Bool.and_eq_true, decide_eq_true_eq, List.all_eq_true] at h
  have := h.2.2 y hy
  simp only [ruleB, varB, Bool.and_eq_true] at this
  exact this.1.2
theorem pats_ok {a : Int} {rs : List (List Int × List Int)} (h : condB a rs = true) : PatOk a (pats rs) := by
  obtain ⟨ha, h6, hr⟩ := condB_rules h
  have h1 := condB_left h
  have h2 := condB_var h
  have key : ∀ j, PatOk a (pats (rs.take j)) := fun j => by
    induction j with
    | zero => intro t ht; simp [pats] at ht
    | succ j ih =>
      rcases Nat.lt_or_ge j rs.length with hj | hj
      · rw [pats_succ rs j hj]
        have hm := List.getElem_mem hj
        have h3 := hr _ hm
        unfold patStep; split
        · exact addP_ok (addP_ok ih ⟨h3.1, h1 _ hm⟩) ⟨by omega, h2 _ hm⟩
        · exact addP_ok ih ⟨h3.1, h1 _ hm⟩
      · rw [List.take_of_length_le (by omega)]; rwa [List.take_of_length_le hj] at ih
  have := key rs.length; rwa [List.take_length] at this
theorem sel_in {N x z : Nat} (hx : x < N) (hz : z < N) {p : List Int} (h : elB 2 p = true) : elB N (comp p [(x : Int), (z : Int)]) = true := by
  rw [elB, List.all_eq_true] at h ⊢
  intro v hv
  obtain ⟨u, hu, rfl⟩ := List.mem_map.1 hv
  have := h u hu
  simp only [decide_eq_true_eq] at this ⊢
  have h2 : u = 0 ∨ u = 1 := by omega
  rcases h2 with rfl | rfl
  · simp; omega
  · simp; omega

set_option maxRecDepth 10000 in
set_option maxHeartbeats 2000000 in
theorem l15Row_c (N : Nat) (h1 : 1 ≤ N) (h4 : N ≤ 4) (k0 : Nat) (hk3 : k0 ≤ 3) (tb : List Int) (htb : (tb.length : Int) = pw N k0) (ps : List (List Int)) (hps : PatOk k0 ps) (hll : ps.length ≤ 12) :
    Spec Try.prog 185 [vint (N : Int), vagg [vint (k0 : Int), vsl 1 (fun x : Int => [vint x]) tb], vsl 1 (fun t : List Int => [vsl 1 (fun x : Int => [vint x]) t]) ps] [] (fun r S' => ∃ s : Sv, r = vlit (vsv s) ∧ S' = [hsl tInt (vsv s) (rowAll N tb ps)]) := by
  refine Spec.of_run2 (n := 64) Try.func185 rfl Try.results185 Try.ntmps185 rfl ?_
  repeat' (first | (with_reducible refine RL.done ?_) | (with_reducible refine RL.wanted ?_ ?_; exact rfl) | ((with_reducible show RH _ _ _ ⟨some 4, .box _ _, _, _, _, _⟩ _ _ _ _); (refine RH.boxAgg rfl rfl ?_; rintro _ _ ⟨b4, rfl, rfl⟩)) | ((with_reducible show RH _ _ _ ⟨some 13, .buildSlice _ _ _, _, _, _, _⟩ _ _ _ _); refine RH.eff rfl rfl (EOpS.e (EOpS.slit (fun x : Int => [vint x]) _ (fun _ _ => rfl) (by repeat (first | exact Elts.nil | (apply Elts.cons; exact rfl; exact CellsOf.one))) rfl rfl)) ?_; rintro _ _ ⟨b13, rfl, rfl⟩) | ((with_reducible show RH _ _ _ _ _ _ _ _); refine RH.val (hK := ?_)) | (with_reducible first | refine Run.seq ?_ | refine Run.region ?_ | refine Run.block ?_) | (with_reducible refine seqN (K := Run _ _ _ _) ?_))
  refine Run.sent (SEnt.packNil tInt rfl) ?_
  refine Run.loop (α := Nat × Sv) (fun q => [(0, vint (N : Int)), (2, vsl 1 (fun t : List Int => [vsl 1 (fun x : Int => [vint x]) t]) ps), (4, vptr b4 0), (7, vlit (vsv q.2)), (8, vint (q.1 : Int))]) (fun q => [hsl tInt (vsv q.2) (rowAll N tb (ps.take q.1)), hcells b4 [vint (k0 : Int), vsl 1 (fun x : Int => [vint x]) tb]]) (fun q => q.1 ≤ ps.length) (fun q => ps.length - q.1) (0, (some ⟨b13, 0, none⟩, 0, 0)) (by simp) (Ent.of slA (.cons .head (by simp [rowAll]) chA)) ?_
  rintro ⟨j, s⟩ hj
  dsimp only at hj ⊢
  rcases Nat.lt_or_eq_of_le hj with h9 | rfl
  · obtain ⟨hp1, hp2⟩ := hps _ (List.getElem_mem h9)
    have hp3 : ps[j].length = k0 := by omega
    have hlA := rowAll_len N h4 tb (ps.take j)
    have hlA2 : (ps.take j).length = j := by simp; omega
    rw [hlA2] at hlA
    have hsuccJ := rowAll_succ N tb ps j h9
    repeat' (first | (with_reducible refine RL.done ?_) | (with_reducible refine RL.wanted ?_ ?_; exact rfl) | ((with_reducible show RH _ _ _ _ _ _ _ _); refine RH.val (hK := ?_)) | (with_reducible first | refine Run.seq ?_ | refine Run.region ?_ | refine Run.block ?_ | refine Run.skip ?_ | refine Run.exit ?_ | refine Run.ret ?_) | (with_reducible show Run _ _ (.cond _ _ _) _ _ _; refine Run.condD rfl (fun h => ?_) (fun h => ?_)) | (with_reducible first | refine seqN (K := Run _ _ _ _) ?_ | refine seqE ?_ | refine blockE ?_))
    · refine Run.loop (α := Nat × Sv) (fun q => [(0, vint (N : Int)), (2, vsl 1 (fun t : List Int => [vsl 1 (fun x : Int => [vint x]) t]) ps), (4, vptr b4 0), (7, vlit (vsv q.2)), (8, vint (j : Int)), (9, vint (q.1 : Int))]) (fun q => [hsl tInt (vsv q.2) (rowAll N tb (ps.take j) ++ rowsX N tb ps[j] q.1), hcells b4 [vint (k0 : Int), vsl 1 (fun x : Int => [vint x]) tb]]) (fun q => q.1 ≤ N) (fun q => N - q.1) (0, s) (by simp) (Ent.of slA (by dsimp only; exact .cons .head (by simp [rowsX]) chA)) ?_
      rintro ⟨x, s⟩ hx
      dsimp only at hx ⊢
      rcases Nat.lt_or_eq_of_le hx with hx9 | rfl
      · have hlX := rowsX_len N tb ps[j] x
        have hlX2 : x * N ≤ 4 * 4 := Nat.mul_le_mul (by omega) h4
        have hsuccX := rowsX_succ N tb ps[j] x
        repeat' (first | (with_reducible refine RL.done ?_) | (with_reducible refine RL.wanted ?_ ?_; exact rfl) | ((with_reducible show RH _ _ _ _ _ _ _ _); refine RH.val (hK := ?_)) | (with_reducible first | refine Run.seq ?_ | refine Run.region ?_ | refine Run.block ?_ | refine Run.skip ?_ | refine Run.exit ?_) | (with_reducible show Run _ _ (.cond _ _ _) _ _ _; refine Run.condD rfl (fun h => ?_) (fun h => ?_)) | (with_reducible first | refine seqN (K := Run _ _ _ _) ?_ | refine seqE ?_ | refine blockN ?_ | refine blockE ?_))
        · refine Run.loop (α := Nat × Sv) (fun q => [(0, vint (N : Int)), (2, vsl 1 (fun t : List Int => [vsl 1 (fun x : Int => [vint x]) t]) ps), (4, vptr b4 0), (7, vlit (vsv q.2)), (8, vint (j : Int)), (9, vint (x : Int)), (10, vint (q.1 : Int))]) (fun q => [hsl tInt (vsv q.2) (rowAll N tb (ps.take j) ++ rowsX N tb ps[j] x ++ rowX N tb ps[j] x q.1), hcells b4 [vint (k0 : Int), vsl 1 (fun x : Int => [vint x]) tb]]) (fun q => q.1 ≤ N) (fun q => N - q.1) (0, s) (by simp) (Ent.of slA (by dsimp only; exact .cons .head (by simp [rowX]) chA)) ?_
          rintro ⟨z, s⟩ hz
          dsimp only at hz ⊢
          rcases Nat.lt_or_eq_of_le hz with hz9 | rfl
          · have hsel := sel_in hx9 hz9 hp2
            have hcl : (comp ps[j] [(x : Int), (z : Int)]).length = k0 := by simp [comp, hp3]
            have hlR := rowX_len N tb ps[j] x z
            have hlen : (rowAll N tb (ps.take j) ++ rowsX N tb ps[j] x ++ rowX N tb ps[j] x z).length ≤ 300 := by simp only [List.length_append]; omega
            repeat' (first | (with_reducible refine RL.done ?_) | (with_reducible refine RL.wanted ?_ ?_; exact rfl) | ((with_reducible show RH _ _ _ _ _ _ _ _); refine RH.val (hK := ?_)) | (with_reducible first | refine Run.seq ?_ | refine Run.region ?_ | refine Run.block ?_ | refine Run.skip ?_ | refine Run.exit ?_) | (with_reducible show Run _ _ (.cond _ _ _) _ _ _; refine Run.condD rfl (fun h => ?_) (fun h => ?_)) | (with_reducible first | refine seqN (K := Run _ _ _ _) ?_ | refine seqE ?_ | refine blockN ?_ | refine blockE ?_))
            · refine Run.loop (α := Nat) (fun k => [(0, vint (N : Int)), (2, vsl 1 (fun t : List Int => [vsl 1 (fun x : Int => [vint x]) t]) ps), (4, vptr b4 0), (7, vlit (vsv s)), (8, vint (j : Int)), (9, vint (x : Int)), (10, vint (z : Int)), (11, vint (hor N ((comp ps[j] [(x : Int), (z : Int)]).take k))), (12, vint (k : Int))]) (fun _ => [hsl tInt (vsv s) (rowAll N tb (ps.take j) ++ rowsX N tb ps[j] x ++ rowX N tb ps[j] x z), hcells b4 [vint (k0 : Int), vsl 1 (fun x : Int => [vint x]) tb]]) (fun k => k ≤ k0) (fun k => k0 - k) 0 (by simp) (Ent.of slA chA) ?_
              intro k hk
              obtain ⟨hb1, hb2⟩ := hor_bound N (by omega) _ hsel k (by omega)
              have hb3 := pw_512' N (by omega) (by omega) k (by omega)
              have hb4 : 0 ≤ hor N ((comp ps[j] [(x : Int), (z : Int)]).take k) * N := Int.mul_nonneg hb1 (by omega)
              have hb5 : hor N ((comp ps[j] [(x : Int), (z : Int)]).take k) * N ≤ 512 * 8 := Int.mul_le_mul (by omega) (by omega) (by omega) (by decide)
              rcases Nat.lt_or_eq_of_le hk with hk9 | rfl
              · have hkl : k < ps[j].length := by omega
                have hv : ps[j][k] = 0 ∨ ps[j][k] = 1 := by
                  have h := hp2
                  rw [elB, List.all_eq_true] at h
                  have := h _ (List.getElem_mem hkl)
                  simp only [decide_eq_true_eq] at this; omega
                have hvl : (ps[j][k]).toNat < [(x : Int), (z : Int)].length := by simp only [List.length_cons, List.length_nil]; omega
                have hck : (comp ps[j] [(x : Int), (z : Int)])[k]'(by omega) = [(x : Int), (z : Int)][(ps[j][k]).toNat] := by
                  simp only [comp, List.getElem_map]; exact getD_r _ _ _ hvl
                have hcb : 0 ≤ [(x : Int), (z : Int)][(ps[j][k]).toNat] ∧ [(x : Int), (z : Int)][(ps[j][k]).toNat] < N := by
                  rcases two_at hv hvl with ⟨_, e⟩ | ⟨_, e⟩ <;> rw [e] <;> omega
                have hss := hor_succ N _ k (show k < (comp ps[j] [(x : Int), (z : Int)]).length by omega)
                rw [hck] at hss
                repeat' (first | (with_reducible refine RL.done ?_) | (with_reducible refine RL.wanted ?_ ?_; exact rfl) | ((with_reducible show RH _ _ _ ⟨some 44, .buildSlice _ _ _, _, _, _, _⟩ _ _ _ _); refine RH.eff rfl rfl (EOpS.e (EOpS.slit (fun x : Int => [vint x]) _ (fun _ _ => rfl) (by repeat (first | exact Elts.nil | (apply Elts.cons; exact rfl; exact CellsOf.one))) rfl rfl)) ?_; rintro _ _ ⟨b44, rfl, rfl⟩) | ((with_reducible show RH _ _ _ ⟨some 61, .buildSlice _ _ _, _, _, _, _⟩ _ _ _ _); refine RH.eff rfl rfl (EOpS.e (EOpS.slit (fun x : Int => [vint x]) _ (fun _ _ => rfl) (by repeat (first | exact Elts.nil | (apply Elts.cons; exact rfl; exact CellsOf.one))) rfl rfl)) ?_; rintro _ _ ⟨b61, rfl, rfl⟩) | ((with_reducible show RH _ _ _ _ _ _ _ _); refine RH.val (hK := ?_)) | (with_reducible first | refine Run.seq ?_ | refine Run.region ?_ | refine Run.block ?_ | refine Run.skip ?_ | refine Run.exit ?_) | (with_reducible show Run _ _ (.cond _ _ _) _ _ _; refine Run.condD rfl (fun h => ?_) (fun h => ?_)) | (with_reducible first | refine seqN (K := Run _ _ _ _) ?_ | refine seqE ?_ | refine blockN ?_ | refine blockE ?_))
                · with_reducible refine seqN ?_
                  exact ⟨k + 1, by omega, by omega, Ent.of slA chA⟩
                · exfalso; omega
              · have hcell : ∀ hh : (hor N ((comp ps[j] [(x : Int), (z : Int)]).take k)).toNat < tb.length, tb[(hor N ((comp ps[j] [(x : Int), (z : Int)]).take k)).toNat]'hh = cellXZ N tb ps[j] x z := fun hh => by
                  rw [cellXZ, ← getD_r tb 0 _ hh, List.take_of_length_le (by omega)]
                repeat' (first | (with_reducible refine RL.done ?_) | (with_reducible refine RL.wanted ?_ ?_; exact rfl) | ((with_reducible show RH _ _ _ ⟨some 44, .buildSlice _ _ _, _, _, _, _⟩ _ _ _ _); refine RH.eff rfl rfl (EOpS.e (EOpS.slit (fun x : Int => [vint x]) _ (fun _ _ => rfl) (by repeat (first | exact Elts.nil | (apply Elts.cons; exact rfl; exact CellsOf.one))) rfl rfl)) ?_; rintro _ _ ⟨b44, rfl, rfl⟩) | ((with_reducible show RH _ _ _ ⟨some 61, .buildSlice _ _ _, _, _, _, _⟩ _ _ _ _); refine RH.eff rfl rfl (EOpS.e (EOpS.slit (fun x : Int => [vint x]) _ (fun _ _ => rfl) (by repeat (first | exact Elts.nil | (apply Elts.cons; exact rfl; exact CellsOf.one))) rfl rfl)) ?_; rintro _ _ ⟨b61, rfl, rfl⟩) | ((with_reducible show RH _ _ _ ⟨_, .call ⟨.builtin .append, _, _⟩, _, _, _, _⟩ _ _ _ _); (refine RH.appI rfl rfl rfl (by repeat (first | exact Pick.nil | (apply Pick.cons; (with_reducible repeat (first | exact Rem.head | apply Rem.tail))))) (by first | omega | (simp; omega)) (by first | omega | (simp; omega)) ?_); rintro _ _ ⟨s, rfl, rfl⟩) | ((with_reducible show RH _ _ _ _ _ _ _ _); refine RH.val (hK := ?_)) | (with_reducible first | refine Run.seq ?_ | refine Run.region ?_ | refine Run.block ?_ | refine Run.skip ?_ | refine Run.exit ?_) | (with_reducible show Run _ _ (.cond _ _ _) _ _ _; refine Run.condD rfl (fun h => ?_) (fun h => ?_)) | (with_reducible first | refine seqN (K := Run _ _ _ _) ?_ | refine seqE ?_ | refine blockN ?_ | refine blockE ?_))
                · exfalso; omega
                · with_reducible refine seqN ?_
                  exact ⟨(z + 1, _), by (try dsimp only); omega, by (try dsimp only); omega, Ent.of (by (try dsimp only); exact slA) (by dsimp only; exact .cons .head (by rw [rowX_succ, ← List.append_assoc, hcell]) chA)⟩
            · exfalso; omega
          · repeat' (first | (with_reducible refine RL.done ?_) | (with_reducible refine RL.wanted ?_ ?_; exact rfl) | ((with_reducible show RH _ _ _ _ _ _ _ _); refine RH.val (hK := ?_)) | (with_reducible first | refine Run.seq ?_ | refine Run.region ?_ | refine Run.block ?_ | refine Run.skip ?_ | refine Run.exit ?_) | (with_reducible show Run _ _ (.cond _ _ _) _ _ _; refine Run.condD rfl (fun h => ?_) (fun h => ?_)) | (with_reducible first | refine seqN (K := Run _ _ _ _) ?_ | refine seqE ?_ | refine blockN ?_ | refine blockE ?_))
            · exfalso; omega
            · with_reducible refine seqN ?_
              exact ⟨(x + 1, _), by (try dsimp only); omega, by (try dsimp only); omega, Ent.of (by (try dsimp only); exact slA) (by dsimp only; exact .cons .head (by rw [hsuccX, ← List.append_assoc]) chA)⟩
        · exfalso; omega
      · repeat' (first | (with_reducible refine RL.done ?_) | (with_reducible refine RL.wanted ?_ ?_; exact rfl) | ((with_reducible show RH _ _ _ _ _ _ _ _); refine RH.val (hK := ?_)) | (with_reducible first | refine Run.seq ?_ | refine Run.region ?_ | refine Run.block ?_ | refine Run.skip ?_ | refine Run.exit ?_) | (with_reducible show Run _ _ (.cond _ _ _) _ _ _; refine Run.condD rfl (fun h => ?_) (fun h => ?_)) | (with_reducible first | refine seqN (K := Run _ _ _ _) ?_ | refine seqE ?_ | refine blockN ?_ | refine blockE ?_))
        · exfalso; omega
        · with_reducible refine seqN ?_
          exact ⟨(j + 1, _), by (try dsimp only); omega, by (try dsimp only); omega, Ent.of (by (try dsimp only); exact slA) (by dsimp only; exact .cons .head (by rw [hsuccJ]) chA)⟩
    · exfalso; omega
  · repeat' (first | (with_reducible refine RL.done ?_) | (with_reducible refine RL.wanted ?_ ?_; exact rfl) | ((with_reducible show RH _ _ _ _ _ _ _ _); refine RH.val (hK := ?_)) | (with_reducible first | refine Run.seq ?_ | refine Run.region ?_ | refine Run.block ?_ | refine Run.skip ?_ | refine Run.exit ?_ | refine Run.ret ?_) | (with_reducible show Run _ _ (.cond _ _ _) _ _ _; refine Run.condD rfl (fun h => ?_) (fun h => ?_)) | (with_reducible first | refine seqN (K := Run _ _ _ _) ?_ | refine seqE ?_ | refine blockE ?_))
    · exfalso; omega
    · refine ⟨eA, _, [hsl tInt (vsv s) (rowAll N tb ps)], resA, ?_, ?_⟩
      · exact SEnt.ch (.cons .head (by simp) .nil)
      · exact ⟨s, rfl, rfl⟩

set_option maxRecDepth 10000 in
set_option maxHeartbeats 2000000 in
theorem rowOf_c (N : Nat) (h1 : 1 ≤ N) (h4 : N ≤ 4) (k0 : Nat) (hk3 : k0 ≤ 3) (tb : List Int) (htb : (tb.length : Int) = pw N k0) (rs : List (List Int × List Int)) (a : Int) (ha : a = k0) (hc : condB a rs = true) :
    Spec Try.prog 193 [vint (N : Int), vsl 1 (fun x : Int => [vint x]) tb, vagg [vint a, vsl 2 (fun y : (List Int) × (List Int) => [vsl 1 (fun x : Int => [vint x]) y.1, vsl 1 (fun x : Int => [vint x]) y.2]) rs]] [] (fun r S' => ∃ s : Sv, r = vlit (vsv s) ∧ S' = [hsl tInt (vsv s) (rowAll N tb (pats rs))]) := by
  have hps := pats_ok hc
  rw [ha] at hps
  have hll : (pats rs).length ≤ 12 := by
    have h6 := (condB_rules hc).2.1
    have := pats_le rs rs.length; rw [List.take_length] at this; omega
  refine Spec.of_run2 (n := 45) Try.func193 rfl Try.results193 Try.ntmps193 rfl ?_
  repeat' (first | (with_reducible first | refine RL.done ?_ | refine RL.app1 ?_) | (with_reducible refine RL.wanted ?_ ?_; exact rfl) | ((with_reducible show RH _ _ _ ⟨some 5, .box _ _, _, _, _, _⟩ _ _ _ _); (refine RH.boxAgg rfl rfl ?_; rintro _ _ ⟨b5, rfl, rfl⟩)) | ((with_reducible show RH _ _ _ ⟨some 12, .buildSlice _ _ _, _, _, _, _⟩ _ _ _ _); refine RH.eff rfl rfl (EOpS.e (EOpS.slit (fun x : Int => [vint x]) _ (fun _ _ => rfl) (by repeat (first | exact Elts.nil | (apply Elts.cons; exact rfl; exact CellsOf.one))) rfl rfl)) ?_; rintro _ _ ⟨b12, rfl, rfl⟩) | ((with_reducible show RH _ _ _ ⟨_, .call ⟨.value (.func 171), _, _⟩, _, _, _, _⟩ _ _ _ _); refine RH.cP Try.call171 ?_; refine ⟨_, patternsOf_c a rs hc, ?_⟩; rintro _ _ ⟨s, rfl, rfl⟩) | ((with_reducible show RH _ _ _ _ _ _ _ _); refine RH.val (hK := ?_)) | (with_reducible first | refine Run.seq ?_ | refine Run.region ?_ | refine Run.block ?_) | (with_reducible refine seqN (K := Run _ _ _ _) ?_))
  refine Run.sent ((SEnt.pick (B := [harr b12 1 (fun x : Int => [vint x]) [] (0 * 1)]) (.cons (.tail .head) .nil)).trans (SEnt.packNil tInt rfl)) ?_
  obtain ⟨ps, hpe⟩ : ∃ ps, ps = pats rs := ⟨_, rfl⟩
  rw [← hpe] at hps hll ⊢
  refine Run.loop (α := Nat × Sv) (fun q => [(0, vint (N : Int)), (1, vsl 1 (fun x : Int => [vint x]) tb), (7, vlit (vsv q.2)), (14, vsl 1 (fun t : List Int => [vsl 1 (fun x : Int => [vint x]) t]) ps), (15, vint (ps.length : Int)), (16, vint (q.1 : Int))]) (fun q => [hsl tInt (vsv q.2) (rowAll N tb (ps.take q.1))]) (fun q => q.1 ≤ ps.length) (fun q => ps.length - q.1) (0, (some ⟨b12, 0, none⟩, 0, 0)) (by simp)
    ((Ent.freeze (B := [hsl (tS tInt) (vsv s) ps]) (φ' := [(0, vint (N : Int)), (1, vsl 1 (fun x : Int => [vint x]) tb), (7, vlit (vsv (some ⟨b12, 0, none⟩, 0, 0))), (14, vsl 1 (fun t : List Int => [vsl 1 (fun x : Int => [vint x]) t]) ps), (15, vint (ps.length : Int)), (16, vint 0)]) (.cons (.tail .head) .nil) (.cons rfl (.refl .nil) (.cons rfl (.refl .nil) (.cons rfl (.refl .nil) (.cons rfl (.sl .head inferInstance rfl .nil) (.cons rfl (.refl .nil) (.cons rfl (.refl .nil) .nil)))))) .refl).trans (Ent.of slA (.cons .head (by simp [rowAll]) .nil))) ?_
  rintro ⟨j, s⟩ hj
  dsimp only at hj ⊢
  rcases Nat.lt_or_eq_of_le hj with h9 | rfl
  · obtain ⟨hp1, hp2⟩ := hps _ (List.getElem_mem h9)
    have hp3 : ps[j].length = k0 := by omega
    have hlA := rowAll_len N h4 tb (ps.take j)
    have hlA2 : (ps.take j).length = j := by simp; omega
    rw [hlA2] at hlA
    have hsuccJ := rowAll_succ N tb ps j h9
    repeat' (first | (with_reducible refine RL.done ?_) | (with_reducible refine RL.wanted ?_ ?_; exact rfl) | ((with_reducible show RH _ _ _ _ _ _ _ _); refine RH.val (hK := ?_)) | (with_reducible first | refine Run.seq ?_ | refine Run.region ?_ | refine Run.block ?_ | refine Run.skip ?_ | refine Run.exit ?_ | refine Run.ret ?_) | (with_reducible show Run _ _ (.cond _ _ _) _ _ _; refine Run.condD rfl (fun h => ?_) (fun h => ?_)) | (with_reducible first | refine seqN (K := Run _ _ _ _) ?_ | refine seqE ?_ | refine blockE ?_))
    · refine Run.loop (α := Nat × Sv) (fun q => [(0, vint (N : Int)), (1, vsl 1 (fun x : Int => [vint x]) tb), (7, vlit (vsv q.2)), (14, vsl 1 (fun t : List Int => [vsl 1 (fun x : Int => [vint x]) t]) ps), (15, vint (ps.length : Int)), (16, vint (j : Int)), (9, vsl 1 (fun x : Int => [vint x]) ps[j]), (10, vint (q.1 : Int))]) (fun q => [hsl tInt (vsv q.2) (rowAll N tb (ps.take j) ++ rowsX N tb ps[j] q.1)]) (fun q => q.1 ≤ N) (fun q => N - q.1) (0, s) (by simp) (Ent.of slA (by dsimp only; exact .cons .head (by simp [rowsX]) chA)) ?_
      rintro ⟨x, s⟩ hx
      dsimp only at hx ⊢
      rcases Nat.lt_or_eq_of_le hx with hx9 | rfl
      · have hlX := rowsX_len N tb ps[j] x
        have hlX2 : x * N ≤ 4 * 4 := Nat.mul_le_mul (by omega) h4
        have hsuccX := rowsX_succ N tb ps[j] x
        repeat' (first | (with_reducible refine RL.done ?_) | (with_reducible refine RL.wanted ?_ ?_; exact rfl) | ((with_reducible show RH _ _ _ _ _ _ _ _); refine RH.val (hK := ?_)) | (with_reducible first | refine Run.seq ?_ | refine Run.region ?_ | refine Run.block ?_ | refine Run.skip ?_ | refine Run.exit ?_) | (with_reducible show Run _ _ (.cond _ _ _) _ _ _; refine Run.condD rfl (fun h => ?_) (fun h => ?_)) | (with_reducible first | refine seqN (K := Run _ _ _ _) ?_ | refine seqE ?_ | refine blockN ?_ | refine blockE ?_))
        · refine Run.loop (α := Nat × Sv) (fun q => [(0, vint (N : Int)), (1, vsl 1 (fun x : Int => [vint x]) tb), (7, vlit (vsv q.2)), (14, vsl 1 (fun t : List Int => [vsl 1 (fun x : Int => [vint x]) t]) ps), (15, vint (ps.length : Int)), (16, vint (j : Int)), (9, vsl 1 (fun x : Int => [vint x]) ps[j]), (10, vint (x : Int)), (11, vint (q.1 : Int))]) (fun q => [hsl tInt (vsv q.2) (rowAll N tb (ps.take j) ++ rowsX N tb ps[j] x ++ rowX N tb ps[j] x q.1)]) (fun q => q.1 ≤ N) (fun q => N - q.1) (0, s) (by simp) (Ent.of slA (by dsimp only; exact .cons .head (by simp [rowX]) chA)) ?_
          rintro ⟨z, s⟩ hz
          dsimp only at hz ⊢
          rcases Nat.lt_or_eq_of_le hz with hz9 | rfl
          · have hsel := sel_in hx9 hz9 hp2
            have hcl : (comp ps[j] [(x : Int), (z : Int)]).length = k0 := by simp [comp, hp3]
            have hlR := rowX_len N tb ps[j] x z
            have hlen : (rowAll N tb (ps.take j) ++ rowsX N tb ps[j] x ++ rowX N tb ps[j] x z).length ≤ 300 := by simp only [List.length_append]; omega
            have hcv : ∀ v ∈ ps[j], 0 ≤ v ∧ v < ([(x : Int), (z : Int)].length : Int) := fun v hv => by
              have h := hp2
              rw [elB, List.all_eq_true] at h
              have := h v hv
              simp only [decide_eq_true_eq] at this
              simp only [List.length_cons, List.length_nil]; omega
            obtain ⟨hb1, hb2⟩ := hor_bound N (by omega) _ hsel k0 (by omega)
            rw [List.take_of_length_le (by omega)] at hb1 hb2
            have hcell : ∀ hh : (hor N (comp ps[j] [(x : Int), (z : Int)])).toNat < tb.length, tb[(hor N (comp ps[j] [(x : Int), (z : Int)])).toNat]'hh = cellXZ N tb ps[j] x z := fun hh => by
              rw [cellXZ, ← getD_r tb 0 _ hh]
            repeat' (first | (with_reducible refine RL.done ?_) | (with_reducible refine RL.wanted ?_ ?_; exact rfl) | ((with_reducible show RH _ _ _ ⟨some 35, .buildSlice _ _ _, _, _, _, _⟩ _ _ _ _); refine RH.eff rfl rfl (EOpS.e (EOpS.slit (fun x : Int => [vint x]) _ (fun _ _ => rfl) (by repeat (first | exact Elts.nil | (apply Elts.cons; exact rfl; exact CellsOf.one))) rfl rfl)) ?_; rintro _ _ ⟨b35, rfl, rfl⟩) | ((with_reducible show RH _ _ _ ⟨some 41, .buildSlice _ _ _, _, _, _, _⟩ _ _ _ _); refine RH.eff rfl rfl (EOpS.e (EOpS.slit (fun x : Int => [vint x]) _ (fun _ _ => rfl) (by repeat (first | exact Elts.nil | (apply Elts.cons; exact rfl; exact CellsOf.one))) rfl rfl)) ?_; rintro _ _ ⟨b41, rfl, rfl⟩) | ((with_reducible show RH _ _ _ ⟨_, .call ⟨.value (.func 94), _, _⟩, _, _, _, _⟩ _ _ _ _); refine RH.cL Try.call94 ?_; apply Exists.intro; apply And.intro; (focus ((repeat (first | exact LVs.nil | (apply LVs.arr; (with_reducible repeat (exact Has.head)); (exact rfl); exact rfl) | apply LVs.refl)); done)); refine ⟨_, compose_c _ _ (by omega) hcv, (by intro r H h; first | (obtain ⟨rfl, rfl⟩ := h; exact ⟨inferInstance, inferInstance⟩) | (obtain ⟨_, rfl, rfl⟩ := h; exact ⟨inferInstance, inferInstance⟩) | (obtain ⟨_, _, rfl, rfl⟩ := h; exact ⟨inferInstance, inferInstance⟩) | (obtain ⟨_, _, rfl, rfl, _⟩ := h; exact ⟨inferInstance, inferInstance⟩)), ?_⟩; rintro _ _ ⟨s3, rfl, rfl⟩; refine RL.nm ?_) | ((with_reducible show RH _ _ _ ⟨_, .call ⟨.value (.func 198), _, _⟩, _, _, _, _⟩ _ _ _ _); refine RH.cL Try.call198 ?_; apply Exists.intro; apply And.intro; (focus ((repeat (first | exact LVs.nil | (apply LVs.sl; (with_reducible repeat (first | exact Has.head | apply Has.tail)); exact inferInstance; exact rfl) | apply LVs.refl)); done)); refine ⟨_, indexOf_c N _ (by omega) (by omega) (by omega) hsel, (by intro r H h; first | (obtain ⟨rfl, rfl⟩ := h; exact ⟨inferInstance, inferInstance⟩) | (obtain ⟨_, rfl, rfl⟩ := h; exact ⟨inferInstance, inferInstance⟩) | (obtain ⟨_, _, rfl, rfl⟩ := h; exact ⟨inferInstance, inferInstance⟩) | (obtain ⟨_, _, rfl, rfl, _⟩ := h; exact ⟨inferInstance, inferInstance⟩)), ?_⟩; rintro _ _ ⟨rfl, rfl⟩; refine RL.nm ?_) | ((with_reducible show RH _ _ _ ⟨_, .call ⟨.builtin .append, _, _⟩, _, _, _, _⟩ _ _ _ _); (refine RH.appI rfl rfl rfl (by repeat (first | exact Pick.nil | (apply Pick.cons; (with_reducible repeat (first | exact Rem.head | apply Rem.tail))))) (by first | omega | (simp; omega)) (by first | omega | (simp; omega)) ?_); rintro _ _ ⟨s, rfl, rfl⟩) | ((with_reducible show RH _ _ _ _ _ _ _ _); refine RH.val (hK := ?_)) | (with_reducible first | refine Run.seq ?_ | refine Run.region ?_ | refine Run.block ?_ | refine Run.skip ?_ | refine Run.exit ?_) | (with_reducible show Run _ _ (.cond _ _ _) _ _ _; refine Run.condD rfl (fun h => ?_) (fun h => ?_)) | (with_reducible first | refine seqN (K := Run _ _ _ _) ?_ | refine seqE ?_ | refine blockN ?_ | refine blockE ?_))
            · with_reducible refine seqN ?_
              exact ⟨(z + 1, _), by (try dsimp only); omega, by (try dsimp only); omega, Ent.of (by (try dsimp only); exact slA) (by dsimp only; exact .cons .head (by rw [rowX_succ, ← List.append_assoc, hcell]) chA)⟩
            · exfalso; omega
          · repeat' (first | (with_reducible refine RL.done ?_) | (with_reducible refine RL.wanted ?_ ?_; exact rfl) | ((with_reducible show RH _ _ _ ⟨some 35, .buildSlice _ _ _, _, _, _, _⟩ _ _ _ _); refine RH.eff rfl rfl (EOpS.e (EOpS.slit (fun x : Int => [vint x]) _ (fun _ _ => rfl) (by repeat (first | exact Elts.nil | (apply Elts.cons; exact rfl; exact CellsOf.one))) rfl rfl)) ?_; rintro _ _ ⟨b35, rfl, rfl⟩) | ((with_reducible show RH _ _ _ _ _ _ _ _); refine RH.val (hK := ?_)) | (with_reducible first | refine Run.seq ?_ | refine Run.region ?_ | refine Run.block ?_ | refine Run.skip ?_ | refine Run.exit ?_) | (with_reducible show Run _ _ (.cond _ _ _) _ _ _; refine Run.condD rfl (fun h => ?_) (fun h => ?_)) | (with_reducible first | refine seqN (K := Run _ _ _ _) ?_ | refine seqE ?_ | refine blockN ?_ | refine blockE ?_))
            · exfalso; omega
            · with_reducible refine seqN ?_
              exact ⟨(x + 1, _), by (try dsimp only); omega, by (try dsimp only); omega, Ent.of (by (try dsimp only); exact slA) (by dsimp only; exact .cons .head (by rw [hsuccX, ← List.append_assoc]) chA)⟩
        · exfalso; omega
      · repeat' (first | (with_reducible refine RL.done ?_) | (with_reducible refine RL.wanted ?_ ?_; exact rfl) | ((with_reducible show RH _ _ _ _ _ _ _ _); refine RH.val (hK := ?_)) | (with_reducible first | refine Run.seq ?_ | refine Run.region ?_ | refine Run.block ?_ | refine Run.skip ?_ | refine Run.exit ?_) | (with_reducible show Run _ _ (.cond _ _ _) _ _ _; refine Run.condD rfl (fun h => ?_) (fun h => ?_)) | (with_reducible first | refine seqN (K := Run _ _ _ _) ?_ | refine seqE ?_ | refine blockN ?_ | refine blockE ?_))
        · exfalso; omega
        · with_reducible refine seqN ?_
          exact ⟨(j + 1, _), by (try dsimp only); omega, by (try dsimp only); omega, Ent.of (by (try dsimp only); exact slA) (by dsimp only; exact .cons .head (by rw [hsuccJ]) chA)⟩
    · exfalso; omega
  · repeat' (first | (with_reducible refine RL.done ?_) | (with_reducible refine RL.wanted ?_ ?_; exact rfl) | ((with_reducible show RH _ _ _ _ _ _ _ _); refine RH.val (hK := ?_)) | (with_reducible first | refine Run.seq ?_ | refine Run.region ?_ | refine Run.block ?_ | refine Run.skip ?_ | refine Run.exit ?_ | refine Run.ret ?_) | (with_reducible show Run _ _ (.cond _ _ _) _ _ _; refine Run.condD rfl (fun h => ?_) (fun h => ?_)) | (with_reducible first | refine seqN (K := Run _ _ _ _) ?_ | refine seqE ?_ | refine blockE ?_))
    · exfalso; omega
    · refine ⟨eA, _, [hsl tInt (vsv s) (rowAll N tb ps)], resA, ?_, ?_⟩
      · exact SEnt.ch (.cons .head (by simp) .nil)
      · exact ⟨s, rfl, rfl⟩
end Go.Proofs.Ytiifdhdhjioefaa
