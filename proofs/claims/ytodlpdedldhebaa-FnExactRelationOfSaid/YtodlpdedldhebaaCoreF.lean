/- Slices of the call's own: make, literals, append; struct values; freezing. Proved for every program P; conditions: sizes far below the address space. -/
import Derived.Test.YtodlpdedldhebaaCoreE
namespace Go.Proofs.Ytodlpdedldhebaa
open Go
set_option linter.unusedVariables false

/-- the element type of a slice -/
class IsSlM (P : Program) (t : TypeId) (e k by' : outParam Nat) (z : outParam Value) : Prop where
  ex : ∃ i, P.underlying t = some (.slice e) ∧ P.info? e = some i ∧ i.zero = some z ∧ i.size = k ∧ i.bytes = by' ∧ z.cells.size = k ∧ 0 < k

section
variable {P : Program} {n : Nat} {φ : Slots} {S : List HP} {d : Option Tmp} {ty : TypeId} {ps : String} {af : Array Edge} {g : Option (Nat × Bool)}

theorem run_sz {e : TypeId} {i : TypeInfo} (h : P.info? e = some i) (w : World) : (sizeOf e).run P w = .ok i.size w := by simp [sizeOf, typeInfo, h]

theorem mod_at {a k i j : Nat} (hj : j < k) : (i * k + j) % k = j := by rw [Nat.add_comm, Nat.add_mul_mod_self_right, Nat.mod_eq_of_lt hj]

/-! ### make -/
theorem EOp.make {t e k by' : Nat} {z : Value} [ht : IsSlM P t e k by' z] {x y : Operand} {l m : Nat} {α : Type} (r : α → List VP) (x0 : α) (hz : ∀ c, VPs c (r x0) z.cells.toList)
    (hx : opd φ x = some (vint (l : Int))) (hy : opd φ y = some (vint (m : Int))) (hlm : l ≤ m) (hb : by' * m ≤ 140737488355328) (hm : m ≤ 140737488355328) :
    EOp P n φ S ⟨d, .makeSlice t x y, ty, ps, af, g⟩ (fun q S' => ∃ b, q = vsb b l m ∧ S' = harr b k r (List.replicate m x0) (m * k) :: S) := by
  refine ⟨fun c a hf hs => ?_⟩
  obtain ⟨i, hu, hi, hz0, rfl, rfl, hzs, hk⟩ := ht.ex
  have h1 : a.eval x = .int .i64 l := hf.opd hx
  have h2 : a.eval y = .int .i64 m := hf.opd hy
  have hbb : (i.bytes : Int) * (m : Int) ≤ 281474976710656 := by
    have : (i.bytes : Int) * (m : Int) = ((i.bytes * m : Nat) : Int) := by simp
    rw [this]; omega
  have hrun := run_make (P := P) c.w t e i z hu hi hz0 .i64 .i64 (l : Int) (m : Int) (by omega) (by omega) hbb (by omega)
  simp only [Int.toNat_natCast] at hrun
  obtain ⟨hl, hs'⟩ := hs.new (k := 0) (o := .cells (madeCells z.cells (m * i.size)) e (0, 0)) (h := harr c.w.heap.size i.size r (List.replicate m x0) (m * i.size)) (fun hl =>
    ⟨rfl, ⟨_, _, newW_new, by simp [madeCells], by simp⟩, fun j x hx => by
      have hx' : x = x0 := by
        have := List.mem_of_getElem? hx
        simpa using (List.mem_replicate.1 this).2
      have hj : j < m := by have := (List.getElem?_eq_some_iff.1 hx).1; simpa using this
      subst hx'
      have hlen : (r x).length = i.size := by rw [(hz c).length, Array.length_toList, hzs]
      refine ⟨hlen, fun o p hp => ?_⟩
      have ho : o < i.size := by rw [← hlen]; exact (List.getElem?_eq_some_iff.1 hp).1
      obtain ⟨v, h3, h4⟩ := (hz ⟨c.F, c.U, newW c.w 0 _⟩).get o p hp
      refine ⟨v, ?_, h4⟩
      rw [cell_row newW_new, Nat.zero_add]
      have hlt : j * i.size + o < m * i.size := by
        calc j * i.size + o < j * i.size + i.size := by omega
          _ = (j + 1) * i.size := by rw [Nat.succ_mul]
          _ ≤ m * i.size := Nat.mul_le_mul_right _ hj
      have e1 : (madeCells z.cells (m * i.size))[j * i.size + o]? = some (z.cells[(j * i.size + o) % z.cells.size]!) := by
        simp [madeCells, hlt]
      rw [e1, hzs, mod_at (a := 0) ho]
      have h5 : z.cells[o]? = some v := by simpa using h3
      obtain ⟨h6, h7⟩ := Array.getElem?_eq_some_iff.1 h5
      rw [getElem!_pos z.cells o h6, h7]⟩)
  refine ⟨_, _, c.F, _, _, ?_, hl, rfl, hs', _, rfl, rfl⟩
  show Sem.run P (execOp a.eval _) c.w = _
  simp only [execOp, h1, h2, Sem.run_bind, hrun, Result.andThen_ok, Sem.run_pure]
  rfl

/-! ### append -/
/-- a source of m elements whose cells are vs -/
structure Src (P : Program) (k : Nat) (w : World) (u : Value) (m : Nat) (vs : List Value) : Prop where
  len : ∀ w', (Builtin.lenOf u).run P w' = .ok m w'
  cells : ∀ w', w'.heap = w.heap → (Builtin.firstCells k m u).run P w' = .ok vs.toArray w'
  size : vs.length = m * k
  one : ∀ v ∈ vs, v.oneCell' = true

theorem cell_heap {w w' : World} (h : w'.heap = w.heap) (a : Addr) : w'.cell? a = w.cell? a := by simp [World.cell?, h]

theorem run_append {t t2 e k by' : Nat} {z : Value} (ht : IsSlM P t e k by' z) (h2 : ∃ e2, P.underlying t2 = some (.slice e2)) {w : World} {b len cap : Nat} {arr : Array Value} {tt : TypeId} (hb : w.heap[b]? = some (.cells arr tt (0, 0)))
    (hsz : arr.size = cap * k) (hlen : len ≤ cap) {u : Value} {m : Nat} {vs : List Value} (hu : Src P k w u m vs) (hbound : (len + m) * by' ≤ 140737488355328) (h63 : len + m ≤ 140737488355328) :
    (len + m ≤ cap ∧ (Builtin.append_ #[t, t2] ty #[.slice (some ⟨b, 0, none⟩) len cap, u]).run P w =
      .ok (.slice (some ⟨b, 0, none⟩) (len + m) cap) (setW w b (arr.toList.take (len * k) ++ vs ++ arr.toList.drop (len * k + vs.length)).toArray tt)) ∨
    (cap < len + m ∧ ∃ cap' rest, len + m ≤ cap' ∧ (Builtin.append_ #[t, t2] ty #[.slice (some ⟨b, 0, none⟩) len cap, u]).run P w =
      .ok (.slice (some ⟨w.heap.size, 0, none⟩) (len + m) cap') (newW w 1 (.cells (arr.toList.take (len * k) ++ vs ++ rest).toArray e)) ∧ (arr.toList.take (len * k) ++ vs ++ rest).length = cap' * k) := by
  obtain ⟨i, hu', hi, hz0, rfl, rfl, hzs, hk⟩ := ht.ex
  obtain ⟨e2, h2⟩ := h2
  have hlk : len * i.size ≤ cap * i.size := Nat.mul_le_mul_right _ hlen
  have htake : (arr.toList.take (len * i.size)).length = len * i.size := by simp; omega
  by_cases hroom : len + m ≤ cap
  · refine .inl ⟨hroom, ?_⟩
    have hfit : len * i.size + vs.length ≤ arr.size := by rw [hu.size, ← Nat.add_mul, hsz]; exact Nat.mul_le_mul_right _ hroom
    have hput := run_put (P := P) hb hfit hu.one
    simp [Builtin.append_, run_underlying hu', run_underlying h2, run_sz hi, hu.len, hroom, hu.cells w rfl, add_zero_addr, hput]
  · refine .inr ⟨by omega, ?_⟩
    have hold : ∀ w', w'.heap = w.heap → (Builtin.firstCells i.size len (.slice (some ⟨b, 0, none⟩) len cap)).run P w' = .ok (arr.toList.take (len * i.size)).toArray w' := fun w' hw => by
      refine run_firstCells_some w' i.size len _ len cap _ htake (fun j v hv => ?_)
      rw [add_zero_addr, Nat.zero_add, cell_heap hw, cell_row hb]
      rw [List.getElem?_take] at hv
      split at hv
      · simpa using hv
      · cases hv
    have hq : ¬ (Question.appendCap (len + m) cap e).forced = true := by simp [Question.forced]
    have hcap : ¬ (281474976710656 < Builtin.nextslicecap (len + m) cap * i.bytes) := by
      have := growslice_fits (need := len + m) (old := cap) (bytes := i.bytes) (by omega) hbound; omega
    have hmax : ¬ ((9223372036854775807 : Int) < (len : Int) + (m : Int)) := by omega
    let cap' := (Question.appendCap (len + m) cap e).cut (w.tape w.drawn (.appendCap (len + m) cap e))
    have hcap' : len + m ≤ cap' := by show len + m ≤ (len + m) + _; omega
    refine ⟨cap', (Builtin.zeroCells z.cells (cap' - (len + m))).toList, hcap', ?_, ?_⟩
    · have hzero : ∀ w', (zeroValue e).run P w' = .ok z w' := fun w' => by simp [zeroValue, typeInfo, hi, hz0]
      have hzw : ∀ w', (typeInfo e).run P w' = .ok i w' := fun w' => by simp [typeInfo, hi]
      have e1 := hold w.drew rfl
      have e2 := hu.cells w.drew rfl
      simp only [Builtin.append_]
      simp [run_underlying hu', run_underlying h2, run_sz hi, hu.len, hroom, hmax, hzw, hcap, hzero, hq, e1, e2, newRow]
      refine ⟨rfl, ?_⟩
      show ({ w with heap := w.heap.push _, drawn := w.drawn + 1 } : World) = { w with heap := w.heap.push _, drawn := w.drawn + 1 }
      congr 2
      congr 1
      apply Array.ext'
      simp [cap']
    · simp only [List.length_append, htake, hu.size, Array.length_toList, Builtin.zeroCells, Array.size_map, Array.size_range, hzs, ← Nat.add_mul]
      congr 1; omega

theorem Src.own {c : Ctx} {k b2 m m2 : Nat} {α : Type} {r : α → List VP} {ys : List α} {sz : Nat} {f : List Nat} (h : (harr b2 k r ys sz).p c f) (h1 : ∀ c v, ∀ y, ∀ p ∈ r y, p.p c v → v.oneCell' = true) (hm : ys.length = m) :
    ∃ vs, Src P k c.w (.slice (some ⟨b2, 0, none⟩) m m2) m vs ∧ ∀ j y, ys[j]? = some y → (r y).length = k ∧ ∀ o p, (r y)[o]? = some p → ∃ v, vs[j * k + o]? = some v ∧ p.p c v := by
  obtain ⟨_, ⟨arr, tt, hb, hsz, hfit⟩, hE⟩ := h
  subst hm
  have hlen : (arr.toList.take (ys.length * k)).length = ys.length * k := by simp; omega
  have hget : ∀ j : Nat, j < ys.length * k → (arr.toList.take (ys.length * k))[j]? = arr[j]? := fun j hj => by rw [List.getElem?_take, if_pos hj]; simp
  refine ⟨arr.toList.take (ys.length * k), ⟨fun w' => rfl, fun w' hw => ?_, hlen, ?_⟩, fun j y hy => ⟨(hE j y hy).1, fun o p hp => ?_⟩⟩
  · refine run_firstCells_some w' k _ _ _ m2 _ hlen (fun j v hv => ?_)
    rw [add_zero_addr, Nat.zero_add, cell_heap hw, cell_row hb, ← hget j (by have := (List.getElem?_eq_some_iff.1 hv).1; omega)]; exact hv
  · intro v hv
    obtain ⟨j, hj⟩ := List.mem_iff_getElem?.1 hv
    have hjl : j < ys.length * k := by have := (List.getElem?_eq_some_iff.1 hj).1; omega
    have hk : 0 < k := by
      rcases Nat.eq_zero_or_pos k with h | h
      · subst h; omega
      · exact h
    have hq : j / k < ys.length := (Nat.div_lt_iff_lt_mul hk).2 hjl
    obtain ⟨h3, h4⟩ := hE (j / k) _ (List.getElem?_eq_getElem hq)
    have hm : j % k < (r ys[j / k]).length := by rw [h3]; exact Nat.mod_lt _ hk
    obtain ⟨v', h5, h6⟩ := h4 (j % k) _ (List.getElem?_eq_getElem hm)
    rw [Nat.zero_add, Nat.div_add_mod', cell_row hb, ← hget j hjl, hj] at h5
    simp only [Option.some.injEq] at h5; subst h5
    exact h1 c v _ _ (List.getElem_mem hm) h6
  · obtain ⟨v, h5, h6⟩ := (hE j y hy).2 o p hp
    have hjl : j < ys.length := (List.getElem?_eq_some_iff.1 hy).1
    have hol : o < k := by rw [← (hE j y hy).1]; exact (List.getElem?_eq_some_iff.1 hp).1
    have hlt : j * k + o < ys.length * k := by
      calc j * k + o < j * k + k := by omega
        _ = (j + 1) * k := by rw [Nat.succ_mul]
        _ ≤ ys.length * k := Nat.mul_le_mul_right _ hjl
    exact ⟨v, by rw [hget _ hlt, ← cell_row hb]; simpa using h5, h6⟩

theorem Src.sl {c : Ctx} {k : Nat} {α : Type} {r : α → List VP} {ys : List α} {u : Value} (h : (vsl k r ys).p c u) (hk : 0 < k) (h1 : ∀ c v, ∀ y, ∀ p ∈ r y, p.p c v → v.oneCell' = true) :
    ∃ vs, Src P k c.w u ys.length vs ∧ ∀ j y, ys[j]? = some y → (r y).length = k ∧ ∀ o p, (r y)[o]? = some p → ∃ v, vs[j * k + o]? = some v ∧ p.p c v := by
  obtain ⟨ao, len, cap, rfl, rfl, h3⟩ := h
  rcases h3 with rfl | ⟨b, o0, rfl, _, hE⟩
  · refine ⟨[], ⟨fun w' => rfl, fun w' _ => ?_, by simp, by simp⟩, by simp⟩
    cases ao with
    | none => simp [Builtin.firstCells]
    | some a => simp [Builtin.firstCells, loadCells, loadCellsFrom]
  · have key : ∀ j, j < ys.length * k → ∃ v, c.w.cell? ⟨b, o0 + j, none⟩ = some v ∧ v.oneCell' = true := fun j hj => by
      have hq : j / k < ys.length := (Nat.div_lt_iff_lt_mul hk).2 hj
      obtain ⟨h3, h4⟩ := hE (j / k) _ (List.getElem?_eq_getElem hq)
      have hm : j % k < (r ys[j / k]).length := by rw [h3]; exact Nat.mod_lt _ hk
      obtain ⟨v', h5, h6⟩ := h4 (j % k) _ (List.getElem?_eq_getElem hm)
      rw [Nat.add_assoc, Nat.div_add_mod'] at h5
      exact ⟨v', h5, h1 c _ _ _ (List.getElem_mem hm) h6⟩
    let vs := (List.range (ys.length * k)).map fun j => (c.w.cell? ⟨b, o0 + j, none⟩).getD undef
    have hv : ∀ j, j < ys.length * k → c.w.cell? ⟨b, o0 + j, none⟩ = vs[j]? := fun j hj => by
      obtain ⟨v, h, _⟩ := key j hj
      simp [vs, hj, h]
    have hl : vs.length = ys.length * k := by simp [vs]
    refine ⟨vs, ⟨fun w' => rfl, fun w' hw => run_firstCells_some w' k _ _ _ cap _ hl (fun j v hj => ?_), hl, ?_⟩, fun j y hy => ⟨(hE j y hy).1, fun o p hp => ?_⟩⟩
    · have hjl : j < ys.length * k := by have := (List.getElem?_eq_some_iff.1 hj).1; omega
      rw [add_zero_addr, cell_heap hw, hv j hjl]; exact hj
    · intro v hm
      obtain ⟨j, hj⟩ := List.mem_iff_getElem?.1 hm
      have hjl : j < ys.length * k := by have := (List.getElem?_eq_some_iff.1 hj).1; omega
      obtain ⟨v', h, ho⟩ := key j hjl
      rw [hv j hjl, hj] at h; cases h; exact ho
    · obtain ⟨v, h5, h6⟩ := (hE j y hy).2 o p hp
      have hjl : j < ys.length := (List.getElem?_eq_some_iff.1 hy).1
      have hol : o < k := by rw [← (hE j y hy).1]; exact (List.getElem?_eq_some_iff.1 hp).1
      have hlt : j * k + o < ys.length * k := by
        calc j * k + o < j * k + k := by omega
          _ = (j + 1) * k := by rw [Nat.succ_mul]
          _ ≤ ys.length * k := Nat.mul_le_mul_right _ hjl
      exact ⟨v, by rw [← hv _ hlt, ← h5, Nat.add_assoc], h6⟩

/-- elements of a row of values -/
theorem elems_append {c : Ctx} {b k : Nat} {α : Type} {r : α → List VP} {xs ys : List α} {old new rest : List Value} {tt : TypeId} (hb : c.w.heap[b]? = some (.cells (old ++ new ++ rest).toArray tt (0, 0)))
    (ho : old.length = xs.length * k) (hn : new.length = ys.length * k) (h1 : ∀ j x, xs[j]? = some x → (r x).length = k ∧ ∀ o p, (r x)[o]? = some p → ∃ v, old[j * k + o]? = some v ∧ p.p c v)
    (h2 : ∀ j y, ys[j]? = some y → (r y).length = k ∧ ∀ o p, (r y)[o]? = some p → ∃ v, new[j * k + o]? = some v ∧ p.p c v) : Elems c b 0 k r (xs ++ ys) := fun j x hx => by
  rw [List.getElem?_append] at hx
  split at hx
  · obtain ⟨h3, h4⟩ := h1 j x hx
    refine ⟨h3, fun o p hp => ?_⟩
    obtain ⟨v, h5, h6⟩ := h4 o p hp
    refine ⟨v, ?_, h6⟩
    have := (List.getElem?_eq_some_iff.1 h5).1
    rw [Nat.zero_add, cell_row hb]
    simp only [List.getElem?_toArray]
    rw [List.getElem?_append_left (by simp; omega), List.getElem?_append_left this]; exact h5
  · rename_i hge
    obtain ⟨h3, h4⟩ := h2 (j - xs.length) x hx
    refine ⟨h3, fun o p hp => ?_⟩
    obtain ⟨v, h5, h6⟩ := h4 o p hp
    refine ⟨v, ?_, h6⟩
    have hlt := (List.getElem?_eq_some_iff.1 h5).1
    have e : j * k + o = old.length + ((j - xs.length) * k + o) := by
      rw [ho, ← Nat.add_assoc, ← Nat.add_mul]; congr 2; omega
    rw [Nat.zero_add, cell_row hb]
    simp only [List.getElem?_toArray]
    rw [e, List.getElem?_append_left (by simp; omega), List.getElem?_append_right (by omega), Nat.add_sub_cancel_left]; exact h5

/-- append to a slice of the call's own -/
theorem EOp.app {t t2 e e2 k k2 by' : Nat} {z : Value} [ht : IsSlM P t e k by' z] [h2 : IsSl P t2 e2 k2] {x y : Operand} {b len cap : Nat} {α : Type} {r : α → List VP} {xs ys : List α} {C : HP → List HP} {q : VP}
    (hx : opd φ x = some (vsb b len cap)) (hy : opd φ y = some q) (hp : Plc S (harr b k r xs (cap * k)) C) (hlen : len = xs.length)
    (hsrc : ∀ c u, SH c S → q.p c u → ∃ vs, Src P k c.w u ys.length vs ∧ ∀ j y, ys[j]? = some y → (r y).length = k ∧ ∀ o p, (r y)[o]? = some p → ∃ v, vs[j * k + o]? = some v ∧ p.p c v)
    (hbound : (xs.length + ys.length) * by' ≤ 140737488355328) (h63 : xs.length + ys.length ≤ 140737488355328) :
    EOp P n φ S ⟨d, .call ⟨.builtin .append, #[x, y], #[t, t2]⟩, ty, ps, af, g⟩ (fun q S' => ∃ b' cap', q = vsb b' (xs.length + ys.length) cap' ∧ S' = C (harr b' k r (xs ++ ys) (cap' * k))) := by
  refine ⟨fun c a hf hs => ?_⟩
  subst hlen
  have h1 : a.eval x = _ := hf.opd hx
  have hq := hf.opd hy
  obtain ⟨vs, hu, hvs⟩ := hsrc c _ hs hq
  have hs0 := hs
  obtain ⟨fs, hsf⟩ := hs
  obtain ⟨f, _, rfl, ⟨arr, tt, hb, hsz, hfit⟩, hE⟩ := (hp.upd (harr b k r xs (cap * k))).has.get hsf.all
  have hk : 0 < k := by obtain ⟨_, _, _, _, _, _, _, h⟩ := ht.ex; exact h
  have hlen : xs.length ≤ cap := Nat.le_of_mul_le_mul_right hfit hk
  have hold : (arr.toList.take (xs.length * k)).length = xs.length * k := by simp; omega
  have hO : ∀ j x, xs[j]? = some x → (r x).length = k ∧ ∀ o p, (r x)[o]? = some p → ∃ v, (arr.toList.take (xs.length * k))[j * k + o]? = some v ∧ p.p c v := fun j x hx => by
    refine ⟨(hE j x hx).1, fun o p hp => ?_⟩
    obtain ⟨v, h5, h6⟩ := (hE j x hx).2 o p hp
    have hjl : j < xs.length := (List.getElem?_eq_some_iff.1 hx).1
    have hol : o < k := by rw [← (hE j x hx).1]; exact (List.getElem?_eq_some_iff.1 hp).1
    have hlt : j * k + o < xs.length * k := by
      calc j * k + o < j * k + k := by omega
        _ = (j + 1) * k := by rw [Nat.succ_mul]
        _ ≤ xs.length * k := Nat.mul_le_mul_right _ hjl
    refine ⟨v, ?_, h6⟩
    rw [List.getElem?_take, if_pos hlt]
    rw [Nat.zero_add, cell_row hb] at h5
    simpa using h5
  have up : ∀ {c' : Ctx}, c.le c' → ∀ {zs : List α} {ws : List Value}, (∀ j x, zs[j]? = some x → (r x).length = k ∧ ∀ o p, (r x)[o]? = some p → ∃ v, ws[j * k + o]? = some v ∧ p.p c v) →
      (∀ j x, zs[j]? = some x → (r x).length = k ∧ ∀ o p, (r x)[o]? = some p → ∃ v, ws[j * k + o]? = some v ∧ p.p c' v) := fun hl zs ws h j x hx =>
    ⟨(h j x hx).1, fun o p hp => let ⟨v, h5, h6⟩ := (h j x hx).2 o p hp; ⟨v, h5, p.mono hl.v h6⟩⟩
  have hex : ∀ v w', (Builtin.append_ #[t, t2] ty #[.slice (some ⟨b, 0, none⟩) xs.length cap, a.eval y]).run P c.w = .ok v w' →
      (execOp a.eval ⟨d, .call ⟨.builtin .append, #[x, y], #[t, t2]⟩, ty, ps, af, g⟩).run P c.w = .ok (.value v) w' := fun v w' h => by
    simp [execOp, resolve, invoke, builtin, h1, h]
  rcases run_append (P := P) (ty := ty) ht ⟨e2, h2.u⟩ hb hsz hlen hu hbound h63 with ⟨hroom, hrun⟩ | ⟨hno, cap', rest, hc', hrun, hl'⟩
  · have hfit' : xs.length * k + vs.length ≤ arr.size := by rw [hu.size, ← Nat.add_mul, hsz]; exact Nat.mul_le_mul_right _ hroom
    obtain ⟨hl, hs'⟩ := hs0.put (hp.upd (harr b k r (xs ++ ys) (cap * k))) hb (arr' := (arr.toList.take (xs.length * k) ++ vs ++ arr.toList.drop (xs.length * k + vs.length)).toArray) (fun f h => h.1) (fun hl => by
      have hlt' : b < c.w.heap.size := (Array.getElem?_eq_some_iff.1 hb).1
      have hnew := setW_at (w := c.w) (arr := (arr.toList.take (xs.length * k) ++ vs ++ arr.toList.drop (xs.length * k + vs.length)).toArray) (t := tt) hlt'
      refine ⟨rfl, ⟨_, _, hnew, by rw [put_size hfit', hsz], by rw [List.length_append]; exact Nat.mul_le_mul_right _ hroom⟩, ?_⟩
      exact elems_append hnew hold hu.size (up hl hO) (up hl hvs))
    exact ⟨_, _, c.F, _, _, hex _ _ hrun, hl, rfl, hs', b, cap, rfl, rfl⟩
  · obtain ⟨A, B, hS, hS'⟩ := (hp.upd (harr c.w.heap.size k r (xs ++ ys) (cap' * k))).split
    subst hS
    obtain ⟨f1, f, f2, rfl, h3, h4, h5⟩ := hsf.middle
    have hl : c.le ⟨c.F, c.U, newW c.w 1 (.cells (arr.toList.take (xs.length * k) ++ vs ++ rest).toArray e)⟩ := newW_le hsf.fro
    have hs' := hsf.replace (h' := harr c.w.heap.size k r (xs ++ ys) (cap' * k)) (f' := [c.w.heap.size]) hl h3 h5 (fun _ => .rfl) (fun b hb _ => newW_heap hb) (by simp [newW_size]) (by simp)
      ⟨rfl, ⟨_, _, newW_new, by simpa using hl', by rw [List.length_append]; exact Nat.mul_le_mul_right _ hc'⟩, elems_append newW_new hold hu.size (up hl hO) (up hl hvs)⟩
    exact ⟨_, _, c.F, _, _, hex _ _ hrun, hl, rfl, ⟨_, hs'⟩, c.w.heap.size, cap', rfl, hS'.symm⟩
end
end Go.Proofs.Ytodlpdedldhebaa
