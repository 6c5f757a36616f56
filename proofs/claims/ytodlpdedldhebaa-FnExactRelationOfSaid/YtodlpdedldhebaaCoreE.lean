/- Operations that make memory or write owned memory: variables, stores, slices, append; freezing. Proved for every program P; conditions: indices in bounds, sizes far below the address space. -/
import Derived.Test.YtodlpdedldhebaaCoreD
namespace Go.Proofs.Ytodlpdedldhebaa
open Go
set_option linter.unusedVariables false

/-- chunk h of the state is replaced by h' -/
inductive Upd : List HP → HP → HP → List HP → Prop
  | head {h h' : HP} {S : List HP} : Upd (h :: S) h h' (h' :: S)
  | tail {h h' x : HP} {S S' : List HP} : Upd S h h' S' → Upd (x :: S) h h' (x :: S')

/-- chunk h is taken out -/
inductive Rem : List HP → HP → List HP → Prop
  | head {h : HP} {S : List HP} : Rem (h :: S) h S
  | tail {h x : HP} {S S' : List HP} : Rem S h S' → Rem (x :: S) h (x :: S')

/-- chunk h in its place among the chunks -/
inductive Plc : List HP → HP → (HP → List HP) → Prop
  | head {h : HP} {S : List HP} : Plc (h :: S) h (fun x => x :: S)
  | tail {h y : HP} {S : List HP} {C : HP → List HP} : Plc S h C → Plc (y :: S) h (fun x => y :: C x)
theorem Plc.upd {S : List HP} {h : HP} {C : HP → List HP} (p : Plc S h C) (h' : HP) : Upd S h h' (C h') := by
  induction p with
  | head => exact .head
  | tail _ ih => exact .tail ih

theorem Upd.has {S S' : List HP} {h h' : HP} (u : Upd S h h' S') : Has S h := by
  induction u with
  | head => exact .head
  | tail _ ih => exact .tail ih

theorem Upd.split {S S' : List HP} {h h' : HP} (u : Upd S h h' S') : ∃ A B, S = A ++ h :: B ∧ S' = A ++ h' :: B := by
  induction u with
  | @head h h' S => exact ⟨[], S, rfl, rfl⟩
  | @tail h h' x S S' _ ih => obtain ⟨A, B, rfl, rfl⟩ := ih; exact ⟨x :: A, B, rfl, rfl⟩
theorem Rem.split {S S' : List HP} {h : HP} (u : Rem S h S') : ∃ A B, S = A ++ h :: B ∧ S' = A ++ B := by
  induction u with
  | @head h S => exact ⟨[], S, rfl, rfl⟩
  | @tail h x S S' _ ih => obtain ⟨A, B, rfl, rfl⟩ := ih; exact ⟨x :: A, B, rfl, rfl⟩

theorem SHf.middle {c : Ctx} {A B : List HP} {h : HP} {fs : List (List Nat)} (hs : SHf c (A ++ h :: B) fs) : ∃ f1 f f2, fs = f1 ++ f :: f2 ∧ All c A f1 ∧ h.p c f ∧ All c B f2 := by
  obtain ⟨f1, g, rfl, h1, h2⟩ := hs.all.split
  cases h2 with
  | @cons _ f _ f2 hp hr => exact ⟨f1, f, f2, rfl, h1, hp, hr⟩

/-- chunk h, whose footprint is f, is replaced by h' with the footprint f': what else is owned lies elsewhere -/
theorem SHf.replace {c c' : Ctx} {A B : List HP} {h h' : HP} {f1 f2 : List (List Nat)} {f f' : List Nat} (hl : c.le c') (hs : SHf c (A ++ h :: B) (f1 ++ f :: f2)) (h1 : All c A f1) (h2 : All c B f2)
    (hF : ∀ b, c'.F b ↔ c.F b) (hk : ∀ b, b < c.w.heap.size → b ∉ f → c'.w.heap[b]? = c.w.heap[b]?) (hf' : ∀ b ∈ f', (b ∈ f ∨ c.w.heap.size ≤ b) ∧ b < c'.w.heap.size) (hn : f'.Nodup) (hp : h'.p c' f') :
    SHf c' (A ++ h' :: B) (f1 ++ f' :: f2) := by
  obtain ⟨_, hnd, hown, hfro, hdis⟩ := hs
  have hU : ∀ b, c'.U b ↔ c.U b := fun b => by rw [hl.un]
  simp only [List.flatten_append, List.flatten_cons, List.nodup_append, List.mem_append] at hnd hown
  obtain ⟨hn1, ⟨hnf, hn2, hd2⟩, hd1⟩ := hnd
  have k1 : ∀ b ∈ f1.flatten, c'.w.heap[b]? = c.w.heap[b]? := fun b hb => hk b (hown b (.inl hb)).2.2 (fun hbf => hd1 b hb b (.inl hbf) rfl)
  have k2 : ∀ b ∈ f2.flatten, c'.w.heap[b]? = c.w.heap[b]? := fun b hb => hk b (hown b (.inr (.inr hb))).2.2 (fun hbf => hd2 b hbf b hb rfl)
  refine ⟨(h1.keep hl.v k1).append (.cons hp (h2.keep hl.v k2)), ?_, ?_, fun b hb => Nat.lt_of_lt_of_le (hfro b (hb.imp (hF b).1 (hU b).1)) hl.size, fun b hb hu => hdis b ((hF b).1 hb) ((hU b).1 hu)⟩
  · simp only [List.flatten_append, List.flatten_cons, List.nodup_append, List.mem_append]
    refine ⟨hn1, ⟨hn, hn2, ?_⟩, ?_⟩
    · rintro x hx y hy rfl
      rcases (hf' x hx).1 with h | h
      · exact hd2 x h x hy rfl
      · have := (hown x (.inr (.inr hy))).2.2; omega
    · rintro x hx y hy rfl
      rcases hy with hy | hy
      · rcases (hf' x hy).1 with h | h
        · exact hd1 x hx x (.inl h) rfl
        · have := (hown x (.inl hx)).2.2; omega
      · exact hd1 x hx x (.inr hy) rfl
  · intro b hb
    simp only [List.flatten_append, List.flatten_cons, List.mem_append] at hb
    have old : ∀ b, (¬ c.F b ∧ ¬ c.U b ∧ b < c.w.heap.size) → (¬ c'.F b ∧ ¬ c'.U b ∧ b < c'.w.heap.size) := fun b h =>
      ⟨fun k => h.1 ((hF b).1 k), fun k => h.2.1 ((hU b).1 k), Nat.lt_of_lt_of_le h.2.2 hl.size⟩
    rcases hb with hb | hb | hb
    · exact old b (hown b (.inl hb))
    · rcases (hf' b hb).1 with h' | h'
      · exact old b (hown b (.inr (.inl h')))
      · exact ⟨fun h => by have := hfro b (.inl ((hF b).1 h)); omega, fun h => by have := hfro b (.inr ((hU b).1 h)); omega, (hf' b hb).2⟩
    · exact old b (hown b (.inr (.inr hb)))

/-- a new chunk in new blocks -/
theorem SHf.add {c c' : Ctx} {S : List HP} {h : HP} {fs : List (List Nat)} {f : List Nat} (hl : c.le c') (hs : SHf c S fs) (hF : ∀ b, c'.F b ↔ c.F b)
    (hk : ∀ b, b < c.w.heap.size → c'.w.heap[b]? = c.w.heap[b]?) (hf : ∀ b ∈ f, c.w.heap.size ≤ b ∧ b < c'.w.heap.size) (hn : f.Nodup) (hp : h.p c' f) : SHf c' (h :: S) (f :: fs) := by
  obtain ⟨ha, hnd, hown, hfro, hdis⟩ := hs
  have hU : ∀ b, c'.U b ↔ c.U b := fun b => by rw [hl.un]
  refine ⟨.cons hp (ha.keep hl.v fun b hb => hk b (hown b hb).2.2), ?_, ?_, fun b hb => Nat.lt_of_lt_of_le (hfro b (hb.imp (hF b).1 (hU b).1)) hl.size, fun b hb hu => hdis b ((hF b).1 hb) ((hU b).1 hu)⟩
  · simp only [List.flatten_cons, List.nodup_append]
    refine ⟨hn, hnd, ?_⟩
    rintro x hx y hy rfl
    have := (hf x hx).1; have := (hown x hy).2.2; omega
  · intro b hb
    simp only [List.flatten_cons, List.mem_append] at hb
    rcases hb with hb | hb
    · exact ⟨fun h => by have := hfro b (.inl ((hF b).1 h)); have := (hf b hb).1; omega, fun h => by have := hfro b (.inr ((hU b).1 h)); have := (hf b hb).1; omega, (hf b hb).2⟩
    · have := hown b hb; exact ⟨fun h => this.1 ((hF b).1 h), fun h => this.2.1 ((hU b).1 h), Nat.lt_of_lt_of_le this.2.2 hl.size⟩

/-! ### worlds -/
def newW (w : World) (k : Nat) (o : Obj) : World := { w with heap := w.heap.push o, drawn := w.drawn + k }
theorem newW_heap {w : World} {k : Nat} {o : Obj} {b : Nat} (h : b < w.heap.size) : (newW w k o).heap[b]? = w.heap[b]? := by
  simp only [newW, Array.getElem?_push]; rw [if_neg (by omega)]
theorem newW_new {w : World} {k : Nat} {o : Obj} : (newW w k o).heap[w.heap.size]? = some o := by simp [newW]
theorem newW_size {w : World} {k : Nat} {o : Obj} : (newW w k o).heap.size = w.heap.size + 1 := by simp [newW]
theorem newW_le {c : Ctx} {k : Nat} {o : Obj} (hfro : ∀ b, c.F b ∨ c.U b → b < c.w.heap.size) : c.le ⟨c.F, c.U, newW c.w k o⟩ :=
  ⟨fun _ h => h, rfl, fun b hb => newW_heap (hfro b hb), by simp [newW], rfl, rfl, rfl⟩

theorem SH.new {c : Ctx} {S : List HP} {k : Nat} {o : Obj} {h : HP} (hs : SH c S) (hp : c.le ⟨c.F, c.U, newW c.w k o⟩ → h.p ⟨c.F, c.U, newW c.w k o⟩ [c.w.heap.size]) : c.le ⟨c.F, c.U, newW c.w k o⟩ ∧ SH ⟨c.F, c.U, newW c.w k o⟩ (h :: S) := by
  obtain ⟨fs, hs⟩ := hs
  have hl := newW_le (k := k) (o := o) hs.fro
  exact ⟨hl, _ , hs.add hl (fun _ => .rfl) (fun b hb => newW_heap hb) (by simp [newW_size]) (by simp) (hp hl)⟩

theorem cell_row {w : World} {b m : Nat} {arr : Array Value} {t : TypeId} {fr : Nat × Nat} (h : w.heap[b]? = some (.cells arr t fr)) : w.cell? ⟨b, m, none⟩ = arr[m]? := by simp [World.cell?, h]

theorem cellsAt_row {c : Ctx} {b : Nat} {vs : List Value} {t : TypeId} {fr : Nat × Nat} {qs : List VP} (h : c.w.heap[b]? = some (.cells vs.toArray t fr)) (hq : VPs c qs vs) : cellsAt c b 0 qs := fun j p hp => by
  obtain ⟨v, h1, h2⟩ := hq.get j p hp
  exact ⟨v, by rw [cell_row h]; simpa using h1, h2⟩

section
variable {P : Program} {n : Nat} {φ : Slots} {S : List HP} {d : Option Tmp} {ty : TypeId} {ps : String} {af : Array Edge} {g : Option (Nat × Bool)}

theorem one_cells {p : VP} [ho : One p] {c : Ctx} {v : Value} (h : p.p c v) : v.cells = #[v] := by
  have := ho.one c v h
  cases v <;> first | rfl | simp [Value.oneCell'] at this

/-! ### variables -/
theorem EOp.boxOne {t : TypeId} {x : Operand} {p : VP} [One p] (hx : opd φ x = some p) : EOp P n φ S ⟨d, .box t x, ty, ps, af, g⟩ (fun r S' => ∃ b, r = vptr b 0 ∧ S' = hcells b [p] :: S) := by
  refine ⟨fun c a hf hs => ?_⟩
  have hp := hf.opd hx
  obtain ⟨hl, hs'⟩ := hs.new (k := 0) (o := .cells #[a.eval x] t (0, 0)) (h := hcells c.w.heap.size [p]) (fun hl => ⟨rfl, ⟨_, _, newW_new, by simp⟩, cellsAt_row (vs := [a.eval x]) newW_new (.cons (p.mono hl.v hp) .nil)⟩)
  exact ⟨.pointer (some ⟨c.w.heap.size, 0, none⟩), _, c.F, _, _, by simp [execOp, Instr.box, newVar, newRow, one_cells hp]; rfl, hl, rfl, hs', _, rfl, rfl⟩

theorem EOp.boxAgg {t : TypeId} {x : Operand} {qs : List VP} (hx : opd φ x = some (vagg qs)) : EOp P n φ S ⟨d, .box t x, ty, ps, af, g⟩ (fun r S' => ∃ b, r = vptr b 0 ∧ S' = hcells b qs :: S) := by
  refine ⟨fun c a hf hs => ?_⟩
  obtain ⟨vs, h1, h2⟩ := hf.opd hx
  obtain ⟨hl, hs'⟩ := hs.new (k := 0) (o := .cells vs.toArray t (0, 0)) (h := hcells c.w.heap.size qs) (fun hl => ⟨rfl, ⟨_, _, newW_new, by simp [h2.length]⟩, cellsAt_row newW_new (h2.mono hl.v)⟩)
  exact ⟨.pointer (some ⟨c.w.heap.size, 0, none⟩), _, c.F, _, _, by simp [execOp, Instr.box, newVar, newRow, h1, Value.cells]; rfl, hl, rfl, hs', _, rfl, rfl⟩

/-- the cells of a type's zero value -/
class IsNew (P : Program) (t : TypeId) (qs : outParam (List VP)) : Prop where
  z : ∃ z : Value, (∀ w, (zeroValue t).run P w = .ok z w) ∧ ∀ c, VPs c qs z.cells.toList

theorem EOp.alloc {t : TypeId} {qs : List VP} [hz : IsNew P t qs] : EOp P n φ S ⟨d, .alloc t, ty, ps, af, g⟩ (fun r S' => ∃ b, r = vptr b 0 ∧ S' = hcells b qs :: S) := by
  refine ⟨fun c a hf hs => ?_⟩
  obtain ⟨z, h1, h2⟩ := hz.z
  obtain ⟨hl, hs'⟩ := hs.new (k := 0) (o := .cells z.cells.toList.toArray t (0, 0)) (h := hcells c.w.heap.size qs) (fun hl => ⟨rfl, ⟨_, _, newW_new, by have := (h2 c).length; simpa using this.symm⟩, cellsAt_row newW_new (h2 _)⟩)
  exact ⟨.pointer (some ⟨c.w.heap.size, 0, none⟩), _, c.F, _, _, by simp [execOp, Instr.alloc, newVar, newRow, h1]; rfl, hl, rfl, hs', _, rfl, rfl⟩

/-! ### stores -/
def setW (w : World) (b : Nat) (arr : Array Value) (t : TypeId) : World := { w with heap := w.heap.setIfInBounds b (.cells arr t (0, 0)) }
theorem setW_other {w : World} {b : Nat} {arr : Array Value} {t : TypeId} {k : Nat} (h : k ≠ b) : (setW w b arr t).heap[k]? = w.heap[k]? := by
  simp only [setW, Array.getElem?_setIfInBounds_ne (Ne.symm h)]
theorem setW_at {w : World} {b : Nat} {arr : Array Value} {t : TypeId} (h : b < w.heap.size) : (setW w b arr t).heap[b]? = some (.cells arr t (0, 0)) := by
  simp [setW, h]
theorem setW_size {w : World} {b : Nat} {arr : Array Value} {t : TypeId} : (setW w b arr t).heap.size = w.heap.size := by simp [setW]

theorem setRow_eq (w : World) (b : Nat) (arr cur : Array Value) (t : TypeId) (h : w.heap[b]? = some (.cells cur t (0, 0))) : w.setRow b arr = setW w b arr t := by
  have hlt : b < w.heap.size := (Array.getElem?_eq_some_iff.1 h).1
  have hget : w.heap[b] = .cells cur t (0, 0) := (Array.getElem?_eq_some_iff.1 h).2
  unfold World.setRow setW
  congr 1
  apply Array.ext_getElem?
  intro i
  rw [Array.getElem?_modify]
  by_cases e : b = i
  · subst e
    rw [if_pos rfl, h]
    simp [hlt]
  · rw [if_neg e, Array.getElem?_setIfInBounds_ne e]

/-- cells i .. of block b are written: one run of storeCells -/
theorem run_put {w : World} {b o : Nat} {t : TypeId} {arr : Array Value} {vs : List Value} (hb : w.heap[b]? = some (.cells arr t (0, 0))) (hfit : o + vs.length ≤ arr.size) (h1 : ∀ v ∈ vs, v.oneCell' = true) :
    (storeCells ⟨b, o, none⟩ vs).run P w = .ok () (setW w b (arr.toList.take o ++ vs ++ arr.toList.drop (o + vs.length)).toArray t) := by
  have := run_storeCells_at P b o t vs 0 arr w hb (by simpa using hfit) h1
  simp only [Nat.add_zero] at this
  rw [this, setRow_eq w b _ arr t hb]

theorem put_get {arr : Array Value} {vs : List Value} {o j : Nat} (hfit : o + vs.length ≤ arr.size) :
    ((arr.toList.take o ++ vs ++ arr.toList.drop (o + vs.length)).toArray)[j]? = if j < o then arr[j]? else if j < o + vs.length then vs[j - o]? else arr[j]? := by
  simp only [List.getElem?_toArray, List.getElem?_append, List.length_append, List.length_take, Array.length_toList]
  have e : min o arr.size = o := by omega
  rw [e]
  by_cases h1 : j < o
  · rw [if_pos (by omega), if_pos h1, if_pos h1, List.getElem?_take, if_pos h1]; simp
  · rw [if_neg h1]
    by_cases h2 : j < o + vs.length
    · rw [if_pos h2, if_pos h2, if_neg h1]
    · rw [if_neg h2, if_neg h2, List.getElem?_drop]
      have : o + vs.length + (j - (o + vs.length)) = j := by omega
      rw [this]; simp

theorem put_size {arr : Array Value} {vs : List Value} {o : Nat} (hfit : o + vs.length ≤ arr.size) : ((arr.toList.take o ++ vs ++ arr.toList.drop (o + vs.length)).toArray).size = arr.size := by
  simp; omega

/-- what a store writes: a chunk of block b is replaced -/
theorem SH.put {c : Ctx} {S S' : List HP} {h h' : HP} {b : Nat} {arr arr' : Array Value} {t : TypeId} (hs : SH c S) (u : Upd S h h' S') (hb : c.w.heap[b]? = some (.cells arr t (0, 0)))
    (hf : ∀ f, h.p c f → f = [b]) (hp : c.le ⟨c.F, c.U, setW c.w b arr' t⟩ → h'.p ⟨c.F, c.U, setW c.w b arr' t⟩ [b]) : c.le ⟨c.F, c.U, setW c.w b arr' t⟩ ∧ SH ⟨c.F, c.U, setW c.w b arr' t⟩ S' := by
  obtain ⟨fs, hs⟩ := hs
  obtain ⟨A, B, rfl, rfl⟩ := u.split
  obtain ⟨f1, f, f2, rfl, h1, h2, h3⟩ := hs.middle
  obtain rfl := hf f h2
  have hlt : b < c.w.heap.size := (Array.getElem?_eq_some_iff.1 hb).1
  have hnF := hs.own b (by simp)
  have hl : c.le ⟨c.F, c.U, setW c.w b arr' t⟩ := ⟨fun _ h => h, rfl, fun k hk => setW_other (fun e => hk.elim (fun h => hnF.1 (e ▸ h)) (fun h => hnF.2.1 (e ▸ h))), by simp [setW_size], rfl, rfl, rfl⟩
  exact ⟨hl, _, hs.replace hl h1 h3 (fun _ => .rfl) (fun k _ hk => setW_other (by simpa using hk)) (by simp [setW_size, hlt]) (by simp) (hp hl)⟩

theorem UOp.storePtr {t : TypeId} {x y : Operand} {b o : Nat} {gg : Bool} {qs : List VP} {p : VP} {C : HP → List HP} [One p] [ht : IsVar P t gg 1] (hx : opd φ x = some (vptr b o)) (hy : opd φ y = some p)
    (u' : Plc S (hcells b qs) C) (ho : Nat.blt o qs.length = true) : UOp P n φ S ⟨d, .store t x y, ty, ps, af, g⟩ (fun S'' => S'' = C (hcells b (qs.set o p))) := by
  refine ⟨fun c a hf hs => ?_⟩
  have u := u'.upd (hcells b (qs.set o p))
  have h1 : a.eval x = _ := hf.opd hx
  have hp := hf.opd hy
  have hlt : o < qs.length := Nat.blt_eq.mp ho
  have hs0 := hs
  obtain ⟨fs, hsf⟩ := hs
  obtain ⟨f, _, rfl, ⟨arr, tt, hb, hsz⟩, hc⟩ := u.has.get hsf.all
  have hone := One.one (p := p) c _ hp
  have hfit : o + [a.eval y].length ≤ arr.size := by simp; omega
  have hrun := run_put (P := P) hb hfit (by simpa using hone)
  obtain ⟨hl, hs'⟩ := hs0.put u hb (arr' := (arr.toList.take o ++ [a.eval y] ++ arr.toList.drop (o + [a.eval y].length)).toArray) (fun f h => h.1) (fun hl => by
    have hlt' : b < c.w.heap.size := (Array.getElem?_eq_some_iff.1 hb).1
    have hnew := setW_at (w := c.w) (arr := (arr.toList.take o ++ [a.eval y] ++ arr.toList.drop (o + [a.eval y].length)).toArray) (t := tt) hlt'
    refine ⟨rfl, ⟨_, _, hnew, by rw [put_size hfit, hsz]; simp⟩, fun j q hq => ?_⟩
    rw [Nat.zero_add, cell_row hnew, put_get hfit]
    rw [List.getElem?_set] at hq
    by_cases hj : o = j
    · subst hj
      rw [if_pos rfl] at hq
      rw [if_pos hlt] at hq
      simp only [Option.some.injEq] at hq; subst hq
      exact ⟨a.eval y, by simp, p.mono hl.v hp⟩
    · rw [if_neg hj] at hq
      obtain ⟨v, h3, h4⟩ := hc j q hq
      rw [Nat.zero_add, cell_row hb] at h3
      refine ⟨v, ?_, q.mono hl.v h4⟩
      simp only [List.length_singleton]
      by_cases h5 : j < o
      · rw [if_pos h5]; exact h3
      · rw [if_neg h5, if_neg (by omega)]; exact h3)
  exact ⟨_, c.F, _, by simp [execOp, h1, Instr.storeAt, Instr.sureAddr, storeVar, one_cells hp, ht.s, hrun], hl, hs', rfl⟩

theorem UOp.storePtrAgg {t : TypeId} {x y : Operand} {b k : Nat} {gg : Bool} {qs rs : List VP} {C : HP → List HP} [ht : IsVar P t gg k] (hx : opd φ x = some (vptr b 0)) (hy : opd φ y = some (vagg rs))
    [h1s : Ones rs] (u' : Plc S (hcells b qs) C) (hl1 : qs.length = k) (hl2 : rs.length = k) : UOp P n φ S ⟨d, .store t x y, ty, ps, af, g⟩ (fun S'' => S'' = C (hcells b rs)) := by
  refine ⟨fun c a hf hs => ?_⟩
  have u := u'.upd (hcells b rs)
  have h1 : a.eval x = _ := hf.opd hx
  obtain ⟨vs, hv, hp⟩ := hf.opd hy
  have hs0 := hs
  obtain ⟨fs, hsf⟩ := hs
  obtain ⟨f, _, rfl, ⟨arr, tt, hb, hsz⟩, hc⟩ := u.has.get hsf.all
  have hvl : vs.length = k := by rw [← hp.length]; exact hl2
  have hone : ∀ v ∈ vs, v.oneCell' = true := by
    clear hv hvl hl2 u u' hy
    have h1s := h1s.one
    induction hp with
    | nil => simp
    | @cons p v ps vs hpv _ ih =>
      intro u hu
      rcases List.mem_cons.1 hu with rfl | hu
      · exact h1s c _ p (by simp) hpv
      · exact ih (fun c v r hr => h1s c v r (by simp [hr])) u hu
  have hfit : 0 + vs.length ≤ arr.size := by omega
  have hrun := run_put (P := P) hb hfit hone
  have earr : (arr.toList.take 0 ++ vs ++ arr.toList.drop (0 + vs.length)) = vs := by
    rw [List.drop_of_length_le (by simp; omega)]; simp
  rw [earr] at hrun
  obtain ⟨hl, hs'⟩ := hs0.put u hb (arr' := vs.toArray) (fun f h => h.1) (fun hl => by
    have hlt' : b < c.w.heap.size := (Array.getElem?_eq_some_iff.1 hb).1
    have hnew := setW_at (w := c.w) (arr := vs.toArray) (t := tt) hlt'
    exact ⟨rfl, ⟨_, _, hnew, by simp; omega⟩, cellsAt_row hnew (hp.mono hl.v)⟩)
  exact ⟨_, c.F, _, by simp [execOp, h1, hv, Instr.storeAt, Instr.sureAddr, storeVar, Value.cells, ht.s, hvl, hrun], hl, hs', rfl⟩

/-- a[i] = v, elements of one cell -/
theorem UOp.storeElt {t : TypeId} {x y : Operand} {b i : Nat} {gg : Bool} {α : Type} {r : α → List VP} {xs : List α} {sz : Nat} {z : α} {p : VP} {C : HP → List HP} [One p] [ht : IsVar P t gg 1]
    (hx : opd φ x = some (velt b 1 i 0)) (hy : opd φ y = some p) (u' : Plc S (harr b 1 r xs sz) C) (hi : i < xs.length) (hz : r z = [p]) :
    UOp P n φ S ⟨d, .store t x y, ty, ps, af, g⟩ (fun S'' => S'' = C (harr b 1 r (xs.set i z) sz)) := by
  refine ⟨fun c a hf hs => ?_⟩
  have u := u'.upd (harr b 1 r (xs.set i z) sz)
  have h1 : a.eval x = .pointer (some ⟨b, i * 1 + 0, none⟩) := hf.opd hx
  rw [Nat.mul_one, Nat.add_zero] at h1
  have hp := hf.opd hy
  have hs0 := hs
  obtain ⟨fs, hsf⟩ := hs
  obtain ⟨f, _, rfl, ⟨arr, tt, hb, hsz, hfits⟩, hc⟩ := u.has.get hsf.all
  have hone := One.one (p := p) c _ hp
  have hfit : i + [a.eval y].length ≤ arr.size := by simp; omega
  have hrun := run_put (P := P) hb hfit (by simpa using hone)
  obtain ⟨hl, hs'⟩ := hs0.put u hb (arr' := (arr.toList.take i ++ [a.eval y] ++ arr.toList.drop (i + [a.eval y].length)).toArray) (fun f h => h.1) (fun hl => by
    have hlt' : b < c.w.heap.size := (Array.getElem?_eq_some_iff.1 hb).1
    have hnew := setW_at (w := c.w) (arr := (arr.toList.take i ++ [a.eval y] ++ arr.toList.drop (i + [a.eval y].length)).toArray) (t := tt) hlt'
    refine ⟨rfl, ⟨_, _, hnew, by rw [put_size hfit, hsz], by simpa using hfits⟩, fun j q hq => ?_⟩
    rw [List.getElem?_set] at hq
    by_cases hj : i = j
    · subst hj
      rw [if_pos rfl, if_pos hi] at hq
      simp only [Option.some.injEq] at hq; subst hq
      refine ⟨by rw [hz]; rfl, fun m q hq => ?_⟩
      rw [hz] at hq
      cases m with
      | zero =>
        simp only [List.getElem?_cons_zero, Option.some.injEq] at hq; subst hq
        exact ⟨a.eval y, by simp only [Nat.zero_add, Nat.mul_one, Nat.add_zero]; rw [cell_row hnew, put_get hfit]; simp, p.mono hl.v hp⟩
      | succ m => simp at hq
    · rw [if_neg hj] at hq
      obtain ⟨h3, h4⟩ := hc j q hq
      refine ⟨h3, fun m q' hq' => ?_⟩
      have hm : m = 0 := by
        have : m < (r q).length := (List.getElem?_eq_some_iff.1 hq').1
        omega
      subst hm
      obtain ⟨v, h5, h6⟩ := h4 0 q' hq'
      refine ⟨v, ?_, q'.mono hl.v h6⟩
      simp only [Nat.zero_add, Nat.mul_one, Nat.add_zero] at h5 ⊢
      rw [cell_row hb] at h5
      rw [cell_row hnew, put_get hfit]
      simp only [List.length_singleton]
      by_cases h7 : j < i
      · rw [if_pos h7]; exact h5
      · rw [if_neg h7, if_neg (by omega)]; exact h5)
  exact ⟨_, c.F, _, by simp [execOp, h1, Instr.storeAt, Instr.sureAddr, storeVar, one_cells hp, ht.s, hrun], hl, hs', rfl⟩
end
end Go.Proofs.Ytodlpdedldhebaa
