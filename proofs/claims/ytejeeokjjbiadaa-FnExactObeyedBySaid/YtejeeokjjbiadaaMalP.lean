/- Rows of a condition: derivations and refutations in plain terms. No program in sight. -/
import Derived.Test.YtejeeokjjbiadaaDeriv
import Derived.Test.YtejeeokjjbiadaaObeyI
import Derived.Test.YtejeeokjjbiadaaRowOf
namespace Go.Proofs.Ytejeeokjjbiadaa
open Go Go.Proofs
set_option linter.unusedVariables false
def mayB (n : Int) (os : List (Int × List Int)) (a : Int) (rs : List (List Int × List Int)) : Bool := algB n os && (decide (n ≤ 4) && condB a rs)
theorem mayB_at {n : Int} {os : List (Int × List Int)} {a : Int} {rs : List (List Int × List Int)} (h : mayB n os a rs = true) : algB n os = true ∧ (1 ≤ n ∧ n ≤ 4) ∧ condB a rs = true ∧ 2 ≤ a ∧ a ≤ 3 := by
  simp only [mayB, Bool.and_eq_true, decide_eq_true_eq] at h
  obtain ⟨h1, _⟩ := algB_at h.1
  obtain ⟨h2, _⟩ := condB_rules h.2.2
  exact ⟨h.1, ⟨h1, h.2.1⟩, h.2.2, h2⟩
theorem pats_few {a : Int} {rs : List (List Int × List Int)} (h : condB a rs = true) : (pats rs).length ≤ 12 := by
  have h6 := (condB_rules h).2.1
  have := pats_le rs rs.length; rw [List.take_length] at this; omega
/-- places in a row -/
def rowS (N : Nat) (rs : List (List Int × List Int)) : Nat := (pats rs).length * N * N
theorem rowS_le {N : Nat} (hN : N ≤ 4) {a : Int} {rs : List (List Int × List Int)} (h : condB a rs = true) : rowS N rs ≤ 192 := by
  have h1 := pats_few h
  have h2 : (pats rs).length * N ≤ 12 * 4 := Nat.mul_le_mul h1 hN
  have h3 : (pats rs).length * N * N ≤ 48 * 4 := Nat.mul_le_mul h2 hN
  exact h3
theorem rowAll_leng (N : Nat) (tb : List Int) (ps : List (List Int)) : (rowAll N tb ps).length = ps.length * N * N := by
  induction ps with
  | nil => simp [rowAll]
  | cons p ps ih =>
    have h2 : rowAll N tb (p :: ps) = rowsX N tb p N ++ rowAll N tb ps := by simp [rowAll]
    rw [h2, List.length_append, rowsX_len, ih, List.length_cons, Nat.succ_mul, Nat.add_mul, Nat.add_comm]
theorem getD_el {n : Int} (h1 : 1 ≤ n) {l : List Int} (h : elB n l = true) (i : Nat) : 0 ≤ l.getD i 0 ∧ l.getD i 0 < n := by
  rw [List.getD_eq_getElem?_getD]
  rcases Nat.lt_or_ge i l.length with h2 | h2
  · rw [List.getElem?_eq_getElem h2]
    exact elB_mem h _ (List.getElem_mem h2)
  · rw [List.getElem?_eq_none h2, Option.getD_none]; omega
theorem rowAll_el {N : Nat} (h1 : 1 ≤ N) {tb : List Int} (h : elB (N : Int) tb = true) (ps : List (List Int)) : elB (N : Int) (rowAll N tb ps) = true := by
  rw [elB, List.all_eq_true]
  intro x hx
  obtain ⟨p, _, hx⟩ := List.mem_flatMap.1 hx
  obtain ⟨i, _, hx⟩ := List.mem_flatMap.1 hx
  obtain ⟨j, _, rfl⟩ := List.mem_map.1 hx
  have := getD_el (n := (N : Int)) (by omega) h (hor N (comp p [(i : Int), (j : Int)])).toNat
  simpa [cellXZ] using this
/-- the rows of the first projections -/
def fstR (N k size : Nat) (ps : List (List Int)) (m : Nat) : List Row := (List.range m).map fun i => rowAll N (projL (N : Int) k i size) ps
theorem fstR_succ (N k size : Nat) (ps : List (List Int)) (m : Nat) : fstR N k size ps (m + 1) = fstR N k size ps m ++ [rowAll N (projL (N : Int) k m size) ps] := by
  rw [fstR, List.range_succ, List.map_append]; rfl
theorem fstR_length (N k size : Nat) (ps : List (List Int)) (m : Nat) : (fstR N k size ps m).length = m := by simp [fstR]
theorem fstR_inv {N k size : Nat} (h1 : 1 ≤ N) (rs : List (List Int × List Int)) : DInv (N : Int) (rowS N rs) (fstR N k size (pats rs) k) := ⟨fun t ht => by
  obtain ⟨i, hi, rfl⟩ := List.mem_map.1 ht
  exact ⟨rowAll_leng _ _ _, rowAll_el h1 (projL_el (N : Int) k i size (by omega) (List.mem_range.1 hi)) _⟩⟩
/-- a step of a derivation over given rows -/
def dvRS (n : Int) (os : List (Int × List Int)) (F : List Row) (size : Nat) (ts : List Row) (s : Int × List Int) : Option Row :=
  if s.1 = -1 then (if s.2.length = 1 ∧ elB (F.length : Int) s.2 = true then some (F.getD (s.2.getD 0 0).toNat []) else none)
  else if (0 ≤ s.1 ∧ s.1 < (os.length : Int)) ∧ ((s.2.length : Int) = (os.getD s.1.toNat (0, [])).1 ∧ elB (ts.length : Int) s.2 = true) then some (applyT n (os.getD s.1.toNat (0, [])).2 (chosen ts s.2) size) else none
def dvRF (n : Int) (os : List (Int × List Int)) (F : List Row) (size : Nat) (ts : List Row) (ss : List (Int × List Int)) : Option (List Row) :=
  ss.foldlM (fun ts s => (dvRS n os F size ts s).map fun t => ts ++ [t]) ts
theorem dvRF_drop {n : Int} {os : List (Int × List Int)} {F : List Row} {size : Nat} {ts : List Row} {ss : List (Int × List Int)} {i : Nat} (h : i < ss.length) : dvRF n os F size ts (ss.drop i) = (dvRS n os F size ts ss[i]).bind fun t => dvRF n os F size (ts ++ [t]) (ss.drop (i + 1)) := by
  rw [List.drop_eq_getElem_cons h, dvRF, List.foldlM_cons]
  cases dvRS n os F size ts ss[i] <;> rfl
theorem dvRF_end {n : Int} {os : List (Int × List Int)} {F : List Row} {size : Nat} {ts : List Row} {ss : List (Int × List Int)} : dvRF n os F size ts (ss.drop ss.length) = some ts := by rw [List.drop_length]; rfl
theorem dvRS_proj {n : Int} {os : List (Int × List Int)} {F : List Row} {size : Nat} {ts : List Row} {s : Int × List Int} (h : s.1 = -1) (h1 : s.2.length = 1) (h2 : elB (F.length : Int) s.2 = true) (h3 : (s.2[0]).toNat < F.length) : dvRS n os F size ts s = some F[(s.2[0]).toNat] := by
  rw [dvRS, if_pos h, if_pos ⟨h1, h2⟩, List.getD_eq_getElem?_getD (l := s.2), List.getElem?_eq_getElem (show 0 < s.2.length by omega), Option.getD_some, List.getD_eq_getElem?_getD, List.getElem?_eq_getElem h3]; rfl
theorem dvRS_noproj {n : Int} {os : List (Int × List Int)} {F : List Row} {size : Nat} {ts : List Row} {s : Int × List Int} (h : s.1 = -1) (h1 : ¬ (s.2.length = 1 ∧ elB (F.length : Int) s.2 = true)) : dvRS n os F size ts s = none := by
  rw [dvRS, if_pos h, if_neg h1]
theorem dvRS_op {n : Int} {os : List (Int × List Int)} {F : List Row} {size : Nat} {ts : List Row} {s : Int × List Int} (h : ¬ s.1 = -1) (h0 : 0 ≤ s.1) (hx : s.1.toNat < os.length) (hl : (s.2.length : Int) = os[s.1.toNat].1) (he : elB (ts.length : Int) s.2 = true) : dvRS n os F size ts s = some (applyT n os[s.1.toNat].2 (chosen ts s.2) size) := by
  rw [dvRS, if_neg h, os_at os _ hx, if_pos ⟨⟨h0, by omega⟩, hl, he⟩]
theorem dvRS_no1 {n : Int} {os : List (Int × List Int)} {F : List Row} {size : Nat} {ts : List Row} {s : Int × List Int} (h : ¬ s.1 = -1) (h1 : ¬ (0 ≤ s.1 ∧ s.1 < (os.length : Int))) : dvRS n os F size ts s = none := by
  rw [dvRS, if_neg h, if_neg (fun h2 => h1 h2.1)]
theorem dvRS_no2 {n : Int} {os : List (Int × List Int)} {F : List Row} {size : Nat} {ts : List Row} {s : Int × List Int} (h : ¬ s.1 = -1) (hx : s.1.toNat < os.length) (h1 : ¬ ((s.2.length : Int) = os[s.1.toNat].1 ∧ elB (ts.length : Int) s.2 = true)) : dvRS n os F size ts s = none := by
  rw [dvRS, if_neg h, os_at os _ hx, if_neg (fun h2 => h1 h2.2)]
theorem DInv.ap2 {n : Int} {size : Nat} {ts : List Row} (h : DInv n size ts) {os : List (Int × List Int)} (ha : algB n os = true) (hsz : size ≤ 1048576) {x : Int} (hx : x.toNat < os.length) {ns : List Int} (hl : (ns.length : Int) = os[x.toNat].1) (he : elB (ts.length : Int) ns = true) :
    ApOk n os[x.toNat].2 (chosen ts ns) size ∧ elB n os[x.toNat].2 = true := by
  obtain ⟨h1, h8, _, hops⟩ := algB_at ha
  have ho := hops _ (List.getElem_mem hx)
  simp only [opB, Bool.and_eq_true, decide_eq_true_eq] at ho
  have hcl : (chosen ts ns).length = ns.length := by simp [chosen]
  refine ⟨⟨h1, h8, by rw [hcl]; omega, by rw [hcl, ho.2.1]; congr 1; omega, fun t ht => ?_, hsz⟩, ho.2.2⟩
  obtain ⟨y, hy, rfl⟩ := List.mem_map.1 ht
  have h2 := elB_mem he y hy
  rw [List.getD_eq_getElem?_getD, List.getElem?_eq_getElem (show y.toNat < ts.length by omega)]
  obtain ⟨h3, h4⟩ := h.row _ (List.getElem_mem (show y.toNat < ts.length by omega))
  exact ⟨Nat.le_of_eq h3.symm, h4⟩
/-- the last row of a derivation obeys -/
def obyB (N : Nat) (os : List (Int × List Int)) (F : List Row) (rs : List (List Int × List Int)) (ss : List (Int × List Int)) : Bool := match dvRF (N : Int) os F (rowS N rs) [] ss with
  | none => false
  | some ts => rs.all (obRule N (ts.getD (ts.length - 1) []) (pats rs))
def fstN (n a : Int) (rs : List (List Int × List Int)) : List Row := fstR n.toNat a.toNat (pw n a.toNat).toNat (pats rs) a.toNat
def obyV (n : Int) (os : List (Int × List Int)) (a : Int) (rs : List (List Int × List Int)) (ss : List (Int × List Int)) : Bool := mayB n os a rs && (decide (1 ≤ ss.length ∧ ss.length ≤ 150) && obyB n.toNat os (fstN n a rs) rs ss)
end Go.Proofs.Ytejeeokjjbiadaa
