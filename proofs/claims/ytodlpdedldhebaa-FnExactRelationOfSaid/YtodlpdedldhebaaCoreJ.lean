/- Struct and slice literals; a struct's zero parts. Proved for every program P; no conditions but small sizes. -/
import Derived.Test.YtodlpdedldhebaaCoreI
namespace Go.Proofs.Ytodlpdedldhebaa
open Go
set_option linter.unusedVariables false

/-- cells from o on are set -/
def setR (cells : Array Value) (o : Nat) (vs : List Value) : Array Value := (vs.zipIdx).foldl (fun cs (x : Value × Nat) => cs.setIfInBounds (o + x.2) x.1) cells

theorem setR_from : ∀ (vs : List Value) (m o : Nat) (cells : Array Value), (vs.zipIdx m).foldl (fun cs (x : Value × Nat) => cs.setIfInBounds (o + x.2) x.1) cells =
    (vs.zipIdx 0).foldl (fun cs (x : Value × Nat) => cs.setIfInBounds (o + m + x.2) x.1) cells
  | [], m, o, cells => rfl
  | v :: vs, m, o, cells => by
    simp only [List.zipIdx_cons, List.foldl_cons, Nat.add_zero, Nat.zero_add]
    rw [setR_from vs (m + 1) o, setR_from vs 1 (o + m)]
    simp only [Nat.add_assoc]

theorem setR_cons (v : Value) (vs : List Value) (o : Nat) (cells : Array Value) : setR cells o (v :: vs) = setR (cells.setIfInBounds o v) (o + 1) vs := by
  unfold setR
  simp only [List.zipIdx_cons, List.foldl_cons, Nat.add_zero, Nat.zero_add]
  rw [setR_from vs 1 o]

theorem setR_size : ∀ (vs : List Value) (o : Nat) (cells : Array Value), (setR cells o vs).size = cells.size
  | [], _, _ => rfl
  | v :: vs, o, cells => by rw [setR_cons, setR_size]; simp

theorem setR_get : ∀ (vs : List Value) (o : Nat) (cells : Array Value) (j : Nat), o + vs.length ≤ cells.size →
    (setR cells o vs)[j]? = if o ≤ j ∧ j < o + vs.length then vs[j - o]? else cells[j]?
  | [], o, cells, j, _ => by
    show cells[j]? = _
    simp; omega
  | v :: vs, o, cells, j, h => by
    rw [setR_cons, setR_get vs (o + 1) _ j (by simp at h ⊢; omega)]
    simp only [List.length_cons] at h ⊢
    by_cases h1 : o + 1 ≤ j ∧ j < o + 1 + vs.length
    · rw [if_pos h1, if_pos ⟨by omega, by omega⟩]
      have : j - o = (j - (o + 1)) + 1 := by omega
      rw [this]; simp
    · rw [if_neg h1]
      by_cases h2 : o = j
      · subst h2
        rw [if_pos ⟨Nat.le_refl _, by omega⟩]
        have : o < cells.size := by omega
        simp [this]
      · rw [if_neg (by omega), Array.getElem?_setIfInBounds_ne h2]

theorem fill_cons (place : Nat → Option (Nat × Nat)) (cells : Array Value) (i : Nat) (v : Value) (rest : List (Nat × Value)) (o k : Nat) (hp : place i = some (o, k)) (hs : v.cells.size = k) (hf : o + k ≤ cells.size) :
    Instr.fill place cells ((i, v) :: rest) = Instr.fill place (setR cells o v.cells.toList) rest := by
  rw [Instr.fill, hp]
  simp only []
  rw [if_neg (by subst hs; simp; omega)]
  congr 1
  unfold setR
  rw [← Array.foldl_toList]
  simp

/-- assertions on the cells of a row, some of them set -/
def setV (qs : List VP) (o : Nat) (rs : List VP) : List VP := qs.take o ++ rs ++ qs.drop (o + rs.length)

def CellsV (c : Ctx) (arr : Array Value) (qs : List VP) : Prop := arr.size = qs.length ∧ ∀ (j : Nat) (p : VP), qs[j]? = some p → ∃ v, arr[j]? = some v ∧ p.p c v

theorem CellsV.set {c : Ctx} {arr : Array Value} {qs rs : List VP} {vs : List Value} {o : Nat} (h : CellsV c arr qs) (hv : VPs c rs vs) (hf : o + rs.length ≤ qs.length) : CellsV c (setR arr o vs) (setV qs o rs) := by
  have hlen := hv.length
  refine ⟨by rw [setR_size, h.1]; simp [setV]; omega, fun j p hp => ?_⟩
  rw [setR_get _ _ _ _ (by rw [h.1, ← hlen]; exact hf)]
  unfold setV at hp
  rw [List.append_assoc, List.getElem?_append] at hp
  have e : (qs.take o).length = o := by simp; omega
  rw [e] at hp
  split at hp
  · rename_i h1
    rw [List.getElem?_take, if_pos h1] at hp
    rw [if_neg (by omega)]; exact h.2 j p hp
  · rename_i h1
    rw [List.getElem?_append] at hp
    split at hp
    · rename_i h2
      rw [if_pos ⟨by omega, by omega⟩]
      exact hv.get _ _ hp
    · rename_i h2
      rw [List.getElem?_drop] at hp
      have : o + rs.length + (j - o - rs.length) = j := by omega
      rw [this] at hp
      rw [if_neg (by omega)]; exact h.2 j p hp

theorem CellsV.vps {c : Ctx} {arr : Array Value} {qs : List VP} (h : CellsV c arr qs) : VPs c qs arr.toList := by
  have key : ∀ (qs : List VP) (l : List Value), l.length = qs.length → (∀ (j : Nat) (p : VP), qs[j]? = some p → ∃ v, l[j]? = some v ∧ p.p c v) → VPs c qs l := by
    intro qs
    induction qs with
    | nil => intro l hl _; cases l with
      | nil => exact .nil
      | cons => simp at hl
    | cons q qs ih =>
      intro l hl hq
      cases l with
      | nil => simp at hl
      | cons v l =>
        obtain ⟨v', h1, h2⟩ := hq 0 q rfl
        simp only [List.getElem?_cons_zero, Option.some.injEq] at h1; subst h1
        exact .cons h2 (ih l (by simpa using hl) (fun j p hp => by simpa using hq (j + 1) p (by simpa using hp)))
  exact key qs arr.toList (by simpa using h.1) (fun j p hp => by simpa using h.2 j p hp)

theorem CellsV.of {c : Ctx} {arr : Array Value} {qs : List VP} (h : VPs c qs arr.toList) : CellsV c arr qs :=
  ⟨by have := h.length; simpa using this.symm, fun j p hp => by simpa using h.get j p hp⟩

/-- the cells of a value: a struct's, or one -/
inductive CellsOf : VP → List VP → Prop
  | agg {qs : List VP} : CellsOf (vagg qs) qs
  | one {p : VP} [One p] : CellsOf p [p]

theorem CellsOf.vps {c : Ctx} {p : VP} {qs : List VP} {v : Value} (h : CellsOf p qs) (hp : p.p c v) : VPs c qs v.cells.toList := by
  cases h with
  | agg => obtain ⟨vs, rfl, h⟩ := hp; simpa [Value.cells] using h
  | one => rw [one_cells hp]; exact .cons hp .nil

/-- the parts of a struct literal -/
inductive Parts (φ : Slots) : List (Nat × Nat) → List VP → List (Nat × Operand) → List VP → Prop
  | nil {pl : List (Nat × Nat)} {qs : List VP} : Parts φ pl qs [] qs
  | cons {pl : List (Nat × Nat)} {qs rs qs' : List VP} {i o k : Nat} {x : Operand} {p : VP} {ps : List (Nat × Operand)} : pl[i]? = some (o, k) → opd φ x = some p → CellsOf p rs → rs.length = k → Nat.ble (o + k) qs.length = true →
      Parts φ pl (setV qs o rs) ps qs' → Parts φ pl qs ((i, x) :: ps) qs'

theorem Parts.fill {φ : Slots} {n : Nat} {c : Ctx} {a : Act} (hf : FH c n φ a) {pl : List (Nat × Nat)} {qs qs' : List VP} {ps : List (Nat × Operand)} (h : Parts φ pl qs ps qs') : ∀ {arr : Array Value}, CellsV c arr qs →
    ∃ arr', Instr.fill (fun i => pl.toArray[i]?) arr (ps.map fun (i, x) => (i, a.eval x)) = some arr' ∧ CellsV c arr' qs' := by
  induction h with
  | nil => intro arr ha; exact ⟨arr, rfl, ha⟩
  | @cons qs rs qs' i o k x p ps hpl hx hc hk hb _ ih =>
    intro arr ha
    have hv := hc.vps (hf.opd hx)
    have hsz : (a.eval x).cells.size = k := by rw [← hk, hv.length]; simp
    have hb' := Nat.le_of_ble_eq_true hb
    obtain ⟨arr', h1, h2⟩ := ih (ha.set hv (by omega))
    exact ⟨arr', by rw [List.map_cons, fill_cons _ _ _ _ _ o k (by simpa using hpl) hsz (by rw [ha.1]; exact hb')]; exact h1, h2⟩

/-- a struct type: the places of its fields -/
class IsStruct (P : Program) (t : TypeId) (pl : outParam (List (Nat × Nat))) : Prop where
  u : ∃ fs : Array Field, P.underlying t = some (.struct fs) ∧ ∀ w, (fs.mapM fun (f : Field) => do pure (f.offset, ← sizeOf f.type)).run P w = .ok pl.toArray w

section
variable {P : Program} {n : Nat} {φ : Slots} {S : List HP} {d : Option Tmp} {ty : TypeId} {ps : String} {af : Array Edge} {g : Option (Nat × Bool)}

theorem VOp.build {t : TypeId} {pl : List (Nat × Nat)} {qs qs' : List VP} {lp : List (Nat × Operand)} [hs : IsStruct P t pl] [hz : IsNew P t qs] (hp : Parts φ pl qs lp qs') : VOp P n φ S ⟨d, .build t lp.toArray, ty, ps, af, g⟩ (vagg qs') := by
  refine ⟨fun c a hf hs' => ?_⟩
  obtain ⟨fs, hu, hm⟩ := hs.u
  obtain ⟨z, h1, h2⟩ := hz.z
  obtain ⟨arr', h3, h4⟩ := hp.fill hf (CellsV.of (h2 c))
  refine ⟨.agg arr', ?_, arr'.toList, by simp, h4.vps⟩
  intro w' hw'
  have hm' := hm w'
  simp only [bind_pure_comp] at hm'
  have h3' : Instr.fill (fun x => pl[x]?) z.cells (List.map (fun x => (x.fst, a.eval x.snd)) lp) = some arr' := by simpa using h3
  simp [execOp, Instr.build, h1, run_underlying hu, hm', h3']

/-- the elements of a slice literal -/
inductive Elts (φ : Slots) {α : Type} (r : α → List VP) : Nat → List (Nat × Operand) → List α → Prop
  | nil {m : Nat} : Elts φ r m [] []
  | cons {m : Nat} {x : Operand} {p : VP} {z : α} {ps : List (Nat × Operand)} {zs : List α} : opd φ x = some p → CellsOf p (r z) → Elts φ r (m + 1) ps zs → Elts φ r m ((m, x) :: ps) (z :: zs)

theorem Elts.length {α : Type} {r : α → List VP} {m : Nat} {lp : List (Nat × Operand)} {zs : List α} (h : Elts φ r m lp zs) : lp.length = zs.length := by
  induction h with
  | nil => rfl
  | cons _ _ _ ih => simp [ih]

theorem Elts.fill {α : Type} {r : α → List VP} {k : Nat} {c : Ctx} {a : Act} (hf : FH c n φ a) {m : Nat} {lp : List (Nat × Operand)} {zs : List α} (h : Elts φ r m lp zs) :
    (∀ z ∈ zs, (r z).length = k) → ∀ {arr : Array Value}, (m + zs.length) * k ≤ arr.size → ∃ arr', Instr.fill (fun i => some (i * k, k)) arr (lp.map fun (i, x) => (i, a.eval x)) = some arr' ∧ arr'.size = arr.size ∧ (∀ j, j < m * k → arr'[j]? = arr[j]?) ∧
      ∀ (i : Nat) (z : α), zs[i]? = some z → ∀ (j : Nat) (p : VP), (r z)[j]? = some p → ∃ v, arr'[(m + i) * k + j]? = some v ∧ p.p c v := by
  induction h with
  | nil => intro _ arr _; exact ⟨arr, rfl, rfl, fun _ _ => rfl, by simp⟩
  | @cons m x p z lp zs hx hc _ ih =>
    intro hk arr hsz
    have hv := hc.vps (hf.opd hx)
    have hl : (a.eval x).cells.size = k := by rw [← hk z (by simp), hv.length]; simp
    simp only [List.length_cons] at hsz
    have hfit : m * k + k ≤ arr.size := by
      calc m * k + k = (m + 1) * k := by rw [Nat.succ_mul]
        _ ≤ (m + (zs.length + 1)) * k := Nat.mul_le_mul_right _ (by omega)
        _ ≤ arr.size := hsz
    have hsz' : (m + 1 + zs.length) * k ≤ (setR arr (m * k) (a.eval x).cells.toList).size := by
      rw [setR_size]
      have : m + 1 + zs.length = m + (zs.length + 1) := by omega
      rw [this]; exact hsz
    obtain ⟨arr', h1, h2, h3, h4⟩ := ih (fun z hz => hk z (by simp [hz])) (arr := setR arr (m * k) (a.eval x).cells.toList) hsz'
    have hget : ∀ j, (setR arr (m * k) (a.eval x).cells.toList)[j]? = if m * k ≤ j ∧ j < m * k + k then (a.eval x).cells.toList[j - m * k]? else arr[j]? := fun j => by
      rw [setR_get _ _ _ _ (by simp [hl]; omega)]; simp [hl]
    refine ⟨arr', by rw [List.map_cons, fill_cons _ _ _ _ _ (m * k) k rfl hl hfit]; exact h1, by rw [h2, setR_size], fun j hj => ?_, fun i z' hz j q hq => ?_⟩
    · rw [h3 j (by rw [Nat.succ_mul]; omega), hget, if_neg (by omega)]
    · cases i with
      | zero =>
        simp only [List.getElem?_cons_zero, Option.some.injEq] at hz; subst hz
        have hj : j < k := by rw [← hk z (by simp)]; exact (List.getElem?_eq_some_iff.1 hq).1
        obtain ⟨v, h5, h6⟩ := hv.get j q hq
        refine ⟨v, ?_, h6⟩
        rw [Nat.add_zero, h3 _ (by rw [Nat.succ_mul]; omega), hget, if_pos ⟨by omega, by omega⟩, Nat.add_sub_cancel_left]; exact h5
      | succ i =>
        obtain ⟨v, h5, h6⟩ := h4 i z' (by simpa using hz) j q hq
        have : m + (i + 1) = m + 1 + i := by omega
        exact ⟨v, by rw [this]; exact h5, h6⟩

/-- a slice literal -/
theorem EOpS.slit {t e k by' len : Nat} {z : Value} [ht : IsSlM P t e k by' z] {α : Type} (r : α → List VP) (zs : List α) (hk : ∀ z ∈ zs, (r z).length = k) {lp : List (Nat × Operand)} (hp : Elts φ r 0 lp zs) (hl : len = zs.length) (hsm : Nat.ble (len * k) 16777216 = true) :
    EOpS P n φ S ⟨d, .buildSlice t len lp.toArray, ty, ps, af, g⟩ (fun q S' => ∃ b, q = vsb b len len ∧ S' = harr b k r zs (len * k) :: S) := by
  refine ⟨fun c a hf hs => ?_⟩
  subst hl
  obtain ⟨i, hu, hi, hz0, rfl, rfl, hzs, hk0⟩ := ht.ex
  let arr0 : Array Value := if zs.length * i.size = 0 then #[] else (Array.range (zs.length * i.size)).map (z.cells[· % z.cells.size]!)
  have h0 : arr0.size = zs.length * i.size := by
    show (if zs.length * i.size = 0 then _ else _ : Array Value).size = _
    split
    · simp [*]
    · simp
  obtain ⟨arr', h1, h2, _, h4⟩ := hp.fill hf hk (arr := arr0) (by rw [h0, Nat.zero_add]; exact Nat.le_refl _)
  obtain ⟨hl, hs'⟩ := hs.new (k := 0) (o := .cells arr' e (0, 0)) (h := harr c.w.heap.size i.size r zs (zs.length * i.size)) (fun hl => by
    refine ⟨rfl, ⟨_, _, newW_new, by rw [h2, h0], Nat.le_refl _⟩, fun m x hx => ⟨hk x (List.mem_of_getElem? hx), fun j p hp => ?_⟩⟩
    obtain ⟨v, h5, h6⟩ := h4 m x hx j p hp
    exact ⟨v, by rw [cell_row newW_new, Nat.zero_add]; simpa using h5, p.mono hl.v h6⟩)
  refine ⟨_, _, c.F, _, _, ?_, hl, ⟨fun b hb => newW_heap hb, by simp [newW]⟩, rfl, hs', _, rfl, rfl⟩
  have hz1 : (zeroValue e).run P c.w = .ok z c.w := by simp [zeroValue, typeInfo, hi, hz0]
  have hsm' : ¬ (16777216 < zs.length * i.size) := by have := Nat.le_of_ble_eq_true hsm; omega
  have h1' : Instr.fill (fun j => some (j * i.size, i.size)) arr0 (lp.map fun (j, x) => (j, a.eval x)) = some arr' := h1
  by_cases hzero : zs.length * i.size = 0
  · have hz0' : zs.length = 0 := (Nat.mul_eq_zero.1 hzero).resolve_right (by omega)
    have hlp : lp = [] := List.eq_nil_of_length_eq_zero (by rw [hp.length, hz0'])
    have harr : arr' = #[] := Array.eq_empty_of_size_eq_zero (by rw [h2, h0, hzero])
    subst hlp harr
    have hh : ∀ f : Nat → Value, Array.map f (Array.range 0) = #[] := fun f => Array.eq_empty_of_size_eq_zero (by simp)
    simp [execOp, Instr.buildSlice, run_underlying hu, run_sz hi, hz0', Instr.fill, newRow]
    rw [hh]; rfl
  · have e0 : arr0 = (Array.range (zs.length * i.size)).map (z.cells[· % z.cells.size]!) := by show (if _ then _ else _) = _; rw [if_neg hzero]
    rw [e0] at h1'
    have h1'' : Instr.fill (fun j => some (j * i.size, i.size)) ((Array.range (zs.length * i.size)).map fun x => z.cells[x % z.cells.size]!) (List.map (fun x => (x.fst, a.eval x.snd)) lp) = some arr' := by simpa using h1'
    simp only [execOp, Instr.buildSlice]
    simp only [Sem.run_bind, run_underlying hu, Result.andThen_ok, run_sz hi]
    rw [if_neg (by simpa using hsm'), if_neg hzero]
    simp only [Sem.run_bind, hz1, Result.andThen_ok, Sem.run_pure]
    simp [h1'', newRow]
    rfl

theorem EOpS.e {o : Oper} {R : VP → List HP → Prop} (h : EOpS P n φ S o R) : EOp P n φ S o R :=
  ⟨fun c a hf hs => let ⟨v, w', F', r, S', h1, h2, _, h4, h5, h6⟩ := h.run c a hf hs; ⟨v, w', F', r, S', h1, h2, h4, h5, h6⟩⟩
end
end Go.Proofs.Ytodlpdedldhebaa
