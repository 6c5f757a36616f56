/- Memory: frozen slices and structs, owned variables and arrays; addresses, loads, stores. Proved for every program P; conditions: indices in bounds. -/
import Derived.Test.YtodlpdedldhebaaCoreC
namespace Go.Proofs.Ytodlpdedldhebaa
open Go
set_option linter.unusedVariables false

class IsVar (P : Program) (t : TypeId) (g : outParam Bool) (k : outParam Nat) : Prop where
  g : ∀ w, (isAgg t).run P w = .ok g w
  s : ∀ w, (sizeOf t).run P w = .ok k w
class IsFld (P : Program) (t i : Nat) (o k : outParam Nat) : Prop where
  u : ∃ fs : Array Field, ∃ f, P.underlying t = some (.struct fs) ∧ fs[i]? = some f ∧ f.offset = o ∧ (∀ w, (sizeOf f.type).run P w = .ok k w) ∧ k ≠ 0
class IsStr (P : Program) (t : TypeId) : Prop where
  u : P.underlying t = some .string
class IsZero (P : Program) (t : TypeId) (z : outParam Value) : Prop where
  z : ∀ w, (zeroValue t).run P w = .ok z w
class IsBytes (P : Program) (t : TypeId) (b : outParam Nat) : Prop where
  b : ∃ i : TypeInfo, (∀ w, (typeInfo t).run P w = .ok i w) ∧ i.bytes = b

/-- values that fill one cell -/
class One (p : VP) : Prop where
  one : ∀ c v, p.p c v → v.oneCell' = true
instance {k : IntKind} {n : Int} : One (vlit (.int k n)) := ⟨fun _ _ h => by cases h; rfl⟩
instance {b : Bool} : One (vlit (.bool b)) := ⟨fun _ _ h => by cases h; rfl⟩
instance {s : ByteArray} : One (vlit (.string s)) := ⟨fun _ _ h => by cases h; rfl⟩
instance {a : Option Addr} : One (vlit (.pointer a)) := ⟨fun _ _ h => by cases h; rfl⟩
instance {a : Option Addr} {l m : Nat} : One (vlit (.slice a l m)) := ⟨fun _ _ h => by cases h; rfl⟩
instance {r : Option Nat} : One (vlit (.map r)) := ⟨fun _ _ h => by cases h; rfl⟩
instance {f : Fn} {x y : Array Value} : One (vlit (.func f x y)) := ⟨fun _ _ h => by cases h; rfl⟩
instance : One (vlit .nilFunc) := ⟨fun _ _ h => by cases h; rfl⟩

class Ones (ps : List VP) : Prop where
  one : ∀ c v, ∀ r ∈ ps, r.p c v → v.oneCell' = true
instance : Ones [] := ⟨fun _ _ _ h => by cases h⟩
instance {p : VP} {ps : List VP} [hp : One p] [hs : Ones ps] : Ones (p :: ps) := ⟨fun c v r hr h => by
  rcases List.mem_cons.1 hr with rfl | hr
  · exact hp.one c v h
  · exact hs.one c v r hr h⟩
/-- elements whose parts fill one cell each -/
class OneR {α : Type} (r : α → List VP) : Prop where
  one : ∀ c v, ∀ y, ∀ p ∈ r y, p.p c v → v.oneCell' = true
instance {α : Type} {r : α → List VP} [h : ∀ x, Ones (r x)] : OneR r := ⟨fun c v y p hp hv => (h y).one c v p hp hv⟩

theorem cell_same {w w' : World} {b m : Nat} (h : w'.heap[b]? = w.heap[b]?) : w'.cell? ⟨b, m, none⟩ = w.cell? ⟨b, m, none⟩ := by simp [World.cell?, h]

/-- the cells of block b from o on meet ps -/
def cellsAt (c : Ctx) (b o : Nat) (ps : List VP) : Prop := ∀ j p, ps[j]? = some p → ∃ v, c.w.cell? ⟨b, o + j, none⟩ = some v ∧ p.p c v

theorem cellsAt.le {c c' : Ctx} {b o : Nat} {ps : List VP} (hl : c.leV c') (hb : c'.w.heap[b]? = c.w.heap[b]?) (h : cellsAt c b o ps) : cellsAt c' b o ps := fun j p hp => by
  obtain ⟨v, h1, h2⟩ := h j p hp
  exact ⟨v, (cell_same hb).trans h1, p.mono hl h2⟩

theorem cellsAt.drop {c : Ctx} {b o : Nat} {ps : List VP} (h : cellsAt c b o ps) (m k : Nat) : cellsAt c b (o + m) ((ps.drop m).take k) := fun j p hp => by
  rw [List.getElem?_take] at hp
  split at hp
  · rw [List.getElem?_drop] at hp
    obtain ⟨v, h1, h2⟩ := h _ p hp
    exact ⟨v, by rw [← h1, Nat.add_assoc], h2⟩
  · cases hp

/-- a pointer to frozen cells -/
def vfp (ps : List VP) : VP := ⟨fun c v => ∃ b o, v = .pointer (some ⟨b, o, none⟩) ∧ c.F b ∧ cellsAt c b o ps,
  fun {_ _ _} hl h => by obtain ⟨b, o, h1, h2, h3⟩ := h; exact ⟨b, o, h1, hl.fr b h2, h3.le hl (hl.heap b h2)⟩⟩
instance {ps : List VP} : One (vfp ps) := ⟨fun _ _ h => by obtain ⟨_, _, rfl, _⟩ := h; rfl⟩

/-- elements of k cells each, from o on -/
def Elems (c : Ctx) (b o k : Nat) {α : Type} (r : α → List VP) (xs : List α) : Prop :=
  ∀ (i : Nat) (x : α), xs[i]? = some x → (r x).length = k ∧ cellsAt c b (o + i * k) (r x)

theorem Elems.le {c c' : Ctx} {b o k : Nat} {α : Type} {r : α → List VP} {xs : List α} (hl : c.leV c') (hb : c'.w.heap[b]? = c.w.heap[b]?) (h : Elems c b o k r xs) : Elems c' b o k r xs :=
  fun i x hx => ⟨(h i x hx).1, (h i x hx).2.le hl hb⟩

/-- a frozen slice (nil if empty, perhaps) that reads as xs -/
def vsl (k : Nat) {α : Type} (r : α → List VP) (xs : List α) : VP :=
  ⟨fun c v => ∃ ao len cap, v = .slice ao len cap ∧ len = xs.length ∧ (xs = [] ∨ ∃ b o, ao = some ⟨b, o, none⟩ ∧ c.F b ∧ Elems c b o k r xs),
   fun {_ _ _} hl h => by
    obtain ⟨ao, len, cap, h1, h2, h3⟩ := h
    refine ⟨ao, len, cap, h1, h2, h3.imp id ?_⟩
    rintro ⟨b, o, h4, h5, h6⟩
    exact ⟨b, o, h4, hl.fr b h5, h6.le hl (hl.heap b h5)⟩⟩
instance {k : Nat} {α : Type} {r : α → List VP} {xs : List α} : One (vsl k r xs) := ⟨fun _ _ h => by obtain ⟨_, _, _, rfl, _⟩ := h; rfl⟩

/-- a struct or array value -/
def vagg (ps : List VP) : VP := ⟨fun c v => ∃ vs, v = .agg vs.toArray ∧ VPs c ps vs, fun {_ _ _} h k => by obtain ⟨vs, h1, h2⟩ := k; exact ⟨vs, h1, h2.mono h⟩⟩

/-- an owned variable of cells -/
def hcells (b : Nat) (ps : List VP) : HP := ⟨fun c fs => fs = [b] ∧ (∃ arr t, c.w.heap[b]? = some (.cells arr t (0, 0)) ∧ arr.size = ps.length) ∧ cellsAt c b 0 ps,
  fun {_ _ _} hl hk h => by
    obtain ⟨rfl, ⟨arr, t, h2, h3⟩, h4⟩ := h
    have := hk b (by simp)
    exact ⟨rfl, ⟨arr, t, this.trans h2, h3⟩, h4.le hl this⟩⟩

/-- an owned array of sz cells whose first elements are xs -/
def harr (b k : Nat) {α : Type} (r : α → List VP) (xs : List α) (sz : Nat) : HP :=
  ⟨fun c fs => fs = [b] ∧ (∃ arr t, c.w.heap[b]? = some (.cells arr t (0, 0)) ∧ arr.size = sz ∧ xs.length * k ≤ sz) ∧ Elems c b 0 k r xs,
  fun {_ _ _} hl hk h => by
    obtain ⟨rfl, ⟨arr, t, h2, h3⟩, h4⟩ := h
    have := hk b (by simp)
    exact ⟨rfl, ⟨arr, t, this.trans h2, h3⟩, h4.le hl this⟩⟩

@[reducible] def vptr (b o : Nat) : VP := vlit (.pointer (some ⟨b, o, none⟩))
/-- a pointer to cell o of element i of an array of k cells an element -/
def velt (b k i o : Nat) : VP := vlit (.pointer (some ⟨b, i * k + o, none⟩))
/-- an owned slice, from the head of its block -/
@[reducible] def vsb (b len cap : Nat) : VP := vlit (.slice (some ⟨b, 0, none⟩) len cap)

/-- a chunk of the state -/
inductive Has : List HP → HP → Prop
  | head {h : HP} {S : List HP} : Has (h :: S) h
  | tail {h x : HP} {S : List HP} : Has S h → Has (x :: S) h

theorem Has.get {c : Ctx} {S : List HP} {h : HP} (hh : Has S h) : ∀ {fs : List (List Nat)}, All c S fs → ∃ f ∈ fs, h.p c f := by
  induction hh with
  | head => intro fs ha; cases ha with | cons hp _ => exact ⟨_, by simp, hp⟩
  | tail _ ih => intro fs ha; cases ha with | cons _ hr => obtain ⟨f, h1, h2⟩ := ih hr; exact ⟨f, by simp [h1], h2⟩

section
variable {P : Program} {n : Nat} {φ : Slots} {S : List HP} {d : Option Tmp} {ty : TypeId} {ps : String} {af : Array Edge} {g : Option (Nat × Bool)}

theorem add_zero_addr (b o m : Nat) : (⟨b, o, none⟩ : Addr).add m = ⟨b, o + m, none⟩ := by
  unfold Addr.add; split <;> simp_all

/-! ### addresses -/
theorem VOp.indexSl {t e k : Nat} [ht : IsSl P t e k] {α : Type} {r : α → List VP} {xs : List α} {x y : Operand} {i : Int} (hx : opd φ x = some (vsl k r xs)) (hy : opd φ y = some (vint i))
    (h0 : 0 ≤ i) (hi : i.toNat < xs.length) : VOp P n φ S ⟨d, .indexAddr t x y, ty, ps, af, g⟩ (vfp (r (xs[i.toNat]'hi))) := by
  refine ⟨fun c a hf hs => ?_⟩
  obtain ⟨ao, len, cap, h1, h2, h3⟩ := hf.opd hx
  have hy' : a.eval y = .int .i64 i := hf.opd hy
  rcases h3 with rfl | ⟨b, o, rfl, hF, hE⟩
  · simp at hi
  · refine ⟨.pointer (some ⟨b, o + i.toNat * k, none⟩), ?_, b, o + i.toNat * k, rfl, hF, (hE i.toNat _ (List.getElem?_eq_getElem hi)).2⟩
    have hlt : i < (len : Int) := by omega
    intro w' hw'
    simp [execOp, h1, hy', Instr.indexAt, asIntOf, run_underlying ht.u, h0, hlt, ht.s, add_zero_addr]

theorem VOp.indexSlN {t e k : Nat} [ht : IsSl P t e k] {α : Type} {r : α → List VP} {xs : List α} {x y : Operand} {i : Nat} (hx : opd φ x = some (vsl k r xs)) (hy : opd φ y = some (vint (i : Int)))
    (hi : i < xs.length) : VOp P n φ S ⟨d, .indexAddr t x y, ty, ps, af, g⟩ (vfp (r (xs[i]'hi))) :=
  VOp.indexSl hx hy (by omega) (by simpa using hi)

theorem VOp.indexOwn {t e k : Nat} [ht : IsSl P t e k] {x y : Operand} {b len cap : Nat} {i : Int} (hx : opd φ x = some (vsb b len cap)) (hy : opd φ y = some (vint i))
    (h0 : 0 ≤ i) (hi : i.toNat < len) : VOp P n φ S ⟨d, .indexAddr t x y, ty, ps, af, g⟩ (velt b k i.toNat 0) := by
  refine ⟨fun c a hf hs => ?_⟩
  have h1 : a.eval x = _ := hf.opd hx
  have hy' : a.eval y = .int .i64 i := hf.opd hy
  have hlt : i < (len : Int) := by omega
  refine ⟨.pointer (some ⟨b, i.toNat * k + 0, none⟩), ?_, rfl⟩
  intro w' hw'
  simp [execOp, h1, hy', Instr.indexAt, asIntOf, run_underlying ht.u, h0, hlt, ht.s, add_zero_addr]

theorem VOp.indexOwnN {t e k : Nat} [ht : IsSl P t e k] {x y : Operand} {b len cap : Nat} {i : Nat} (hx : opd φ x = some (vsb b len cap)) (hy : opd φ y = some (vint (i : Int)))
    (hi : i < len) : VOp P n φ S ⟨d, .indexAddr t x y, ty, ps, af, g⟩ (velt b k i 0) := by
  have := VOp.indexOwn (P := P) (n := n) (φ := φ) (S := S) (d := d) (ty := ty) (ps := ps) (af := af) (g := g) (t := t) (e := e) (k := k) hx hy (by omega) (by simpa using hi)
  simpa using this

theorem VOp.fieldFp {t i o k : Nat} [ht : IsFld P t i o k] {x : Operand} {qs : List VP} (hx : opd φ x = some (vfp qs)) :
    VOp P n φ S ⟨d, .fieldAddr t x i, ty, ps, af, g⟩ (vfp ((qs.drop o).take k)) := by
  refine ⟨fun c a hf hs => ?_⟩
  obtain ⟨b, o', h1, h2, h3⟩ := hf.opd hx
  obtain ⟨fs, f, hu, hfi, ho, hsz, hk⟩ := ht.u
  refine ⟨.pointer (some ⟨b, o' + o, none⟩), ?_, b, o' + o, rfl, h2, h3.drop o k⟩
  intro w' hw'
  simp [execOp, h1, Instr.fieldAt, run_underlying hu, hfi, Instr.sureAddr, fieldPlace, hsz, hk, ho, add_zero_addr]

theorem VOp.fieldPtr {t i o k : Nat} [ht : IsFld P t i o k] {x : Operand} {b o' : Nat} (hx : opd φ x = some (vptr b o')) :
    VOp P n φ S ⟨d, .fieldAddr t x i, ty, ps, af, g⟩ (vptr b (o' + o)) := by
  refine ⟨fun c a hf hs => ?_⟩
  have h1 : a.eval x = _ := hf.opd hx
  obtain ⟨fs, f, hu, hfi, ho, hsz, hk⟩ := ht.u
  refine ⟨.pointer (some ⟨b, o' + o, none⟩), ?_, rfl⟩
  intro w' hw'
  simp [execOp, h1, Instr.fieldAt, run_underlying hu, hfi, Instr.sureAddr, fieldPlace, hsz, hk, ho, add_zero_addr]

theorem VOp.fieldElt {t i o k : Nat} [ht : IsFld P t i o k] {x : Operand} {b k' j o' : Nat} (hx : opd φ x = some (velt b k' j o')) :
    VOp P n φ S ⟨d, .fieldAddr t x i, ty, ps, af, g⟩ (velt b k' j (o' + o)) := by
  refine ⟨fun c a hf hs => ?_⟩
  have h1 : a.eval x = .pointer (some ⟨b, j * k' + o', none⟩) := hf.opd hx
  obtain ⟨fs, f, hu, hfi, ho, hsz, hk⟩ := ht.u
  refine ⟨.pointer (some ⟨b, j * k' + (o' + o), none⟩), ?_, rfl⟩
  intro w' hw'
  simp [execOp, h1, Instr.fieldAt, run_underlying hu, hfi, Instr.sureAddr, fieldPlace, hsz, hk, ho, add_zero_addr, Nat.add_assoc]

/-! ### loads -/
theorem run_loads {c : Ctx} {b o : Nat} {qs : List VP} (h : cellsAt c b o qs) : ∃ vs, VPs c qs vs ∧ ∀ w', Same c.w w' → (loadCells ⟨b, o, none⟩ qs.length).run P w' = .ok vs.toArray w' := by
  have key : ∀ (m : Nat) (qs : List VP), cellsAt c b (o + m) qs → ∃ vs, VPs c qs vs ∧ ∀ j v, vs[j]? = some v → c.w.cell? ⟨b, o + (m + j), none⟩ = some v := by
    intro m qs
    induction qs generalizing m with
    | nil => intro _; exact ⟨[], .nil, by simp⟩
    | cons q qs ih =>
      intro hq
      obtain ⟨v, h1, h2⟩ := hq 0 q rfl
      obtain ⟨vs, h3, h4⟩ := ih (m + 1) (fun j p hp => by
        obtain ⟨v, h5, h6⟩ := hq (j + 1) p (by simpa using hp)
        exact ⟨v, by rw [← h5]; congr 2; omega, h6⟩)
      refine ⟨v :: vs, .cons h2 h3, fun j u hu => ?_⟩
      cases j with
      | zero => simp only [List.getElem?_cons_zero, Option.some.injEq] at hu; subst hu; simpa using h1
      | succ j =>
        have := h4 j u (by simpa using hu)
        rw [← this]; congr 2; omega
  obtain ⟨vs, h1, h2⟩ := key 0 qs (by simpa using h)
  refine ⟨vs, h1, fun w' hw' => ?_⟩
  rw [h1.length]
  exact run_loadCells_list w' _ vs (fun j v hv => hw'.cell (by rw [add_zero_addr, ← h2 j v hv]; congr 2; omega))

/-- what a load of a variable of type t gives of cells that meet qs -/
theorem run_var {t : Nat} {gg : Bool} {k : Nat} (ht : IsVar P t gg k) {c : Ctx} {b o : Nat} {qs : List VP} (hl : qs.length = k) (h : cellsAt c b o qs) (hg : gg = true ∨ ∃ q, qs = [q]) :
    ∃ v, (∀ w', Same c.w w' → (loadVar t ⟨b, o, none⟩).run P w' = .ok v w') ∧ (if gg then vagg qs else qs.headD vany).p c v := by
  cases hgg : gg with
  | true =>
    subst hgg
    obtain ⟨vs, h1, h2⟩ := run_loads (P := P) h
    refine ⟨.agg vs.toArray, fun w' hw' => ?_, vs, rfl, h1⟩
    subst hl
    simp [loadVar, ht.g, ht.s, h2 w' hw']
  | false =>
    subst hgg
    obtain ⟨q, rfl⟩ := hg.resolve_left (by simp)
    obtain ⟨v, h1, h2⟩ := h 0 q rfl
    exact ⟨v, fun w' hw' => by simp only [Nat.add_zero] at h1; simp [loadVar, ht.g, hw'.cell h1], h2⟩

theorem VOp.loadFp {t : Nat} {x : Operand} {q : VP} {k : Nat} [ht : IsVar P t false k] (hx : opd φ x = some (vfp [q])) : VOp P n φ S ⟨d, .load t x, ty, ps, af, g⟩ q := by
  refine ⟨fun c a hf hs => ?_⟩
  obtain ⟨b, o, h1, h2, h3⟩ := hf.opd hx
  obtain ⟨v, h4, h5⟩ := h3 0 q rfl
  simp only [Nat.add_zero] at h4
  exact ⟨v, by
    intro w' hw'
    have h4 := hw'.cell h4
    simp [execOp, h1, Instr.loadAt, Instr.sureAddr, loadVar, ht.g, h4], h5⟩
theorem VOp.loadFpAgg {t : Nat} {x : Operand} {qs : List VP} {k : Nat} [ht : IsVar P t true k] (hx : opd φ x = some (vfp qs)) (hl : qs.length = k) : VOp P n φ S ⟨d, .load t x, ty, ps, af, g⟩ (vagg qs) := by
  refine ⟨fun c a hf hs => ?_⟩
  obtain ⟨b, o, h1, h2, h3⟩ := hf.opd hx
  obtain ⟨v, h4, h5⟩ := run_var ht hl h3 (.inl rfl)
  exact ⟨v, by
    intro w' hw'
    have h4 := h4 w' hw'
    simp [execOp, h1, Instr.loadAt, Instr.sureAddr, h4], h5⟩

theorem VOp.loadPtr {t : Nat} {x : Operand} {b o : Nat} {qs : List VP} {q : VP} {k : Nat} [ht : IsVar P t false k] (hx : opd φ x = some (vptr b o)) (hh : Has S (hcells b qs)) (hq : qs[o]? = some q) :
    VOp P n φ S ⟨d, .load t x, ty, ps, af, g⟩ q := by
  refine ⟨fun c a hf ⟨fs, hs⟩ => ?_⟩
  have h1 : a.eval x = _ := hf.opd hx
  obtain ⟨f, _, _, _, h3⟩ := hh.get hs.all
  obtain ⟨v, h4, h5⟩ := h3 o q hq
  simp only [Nat.zero_add] at h4
  exact ⟨v, by
    intro w' hw'
    have h4 := hw'.cell h4
    simp [execOp, h1, Instr.loadAt, Instr.sureAddr, loadVar, ht.g, h4], h5⟩
theorem VOp.loadPtrAgg {t : Nat} {x : Operand} {b o : Nat} {qs : List VP} {k : Nat} [ht : IsVar P t true k] (hx : opd φ x = some (vptr b o)) (hh : Has S (hcells b qs)) (hl : ((qs.drop o).take k).length = k) :
    VOp P n φ S ⟨d, .load t x, ty, ps, af, g⟩ (vagg ((qs.drop o).take k)) := by
  refine ⟨fun c a hf ⟨fs, hs⟩ => ?_⟩
  have h1 : a.eval x = _ := hf.opd hx
  obtain ⟨f, _, _, _, h3⟩ := hh.get hs.all
  have h3' := h3.drop o k
  rw [Nat.zero_add] at h3'
  obtain ⟨v, h4, h5⟩ := run_var ht hl h3' (.inl rfl)
  exact ⟨v, by
    intro w' hw'
    have h4 := h4 w' hw'
    simp [execOp, h1, Instr.loadAt, Instr.sureAddr, h4], h5⟩

theorem VOp.loadElt {t : Nat} {x : Operand} {b k i o : Nat} {α : Type} {r : α → List VP} {xs : List α} {sz : Nat} {q : VP} {k' : Nat} [ht : IsVar P t false k'] (hx : opd φ x = some (velt b k i o)) (hh : Has S (harr b k r xs sz))
    (hi : i < xs.length) (hq : (r (xs[i]'hi))[o]? = some q) : VOp P n φ S ⟨d, .load t x, ty, ps, af, g⟩ q := by
  refine ⟨fun c a hf ⟨fs, hs⟩ => ?_⟩
  have h1 : a.eval x = .pointer (some ⟨b, i * k + o, none⟩) := hf.opd hx
  obtain ⟨f, _, _, _, h3⟩ := hh.get hs.all
  obtain ⟨v, h4, h5⟩ := (h3 i _ (List.getElem?_eq_getElem hi)).2 o q hq
  simp only [Nat.zero_add] at h4
  exact ⟨v, by
    intro w' hw'
    have h4 := hw'.cell h4
    simp [execOp, h1, Instr.loadAt, Instr.sureAddr, loadVar, ht.g, h4], h5⟩
theorem VOp.loadEltAgg {t : Nat} {x : Operand} {b k i : Nat} {α : Type} {r : α → List VP} {xs : List α} {sz : Nat} {k' : Nat} [ht : IsVar P t true k'] (hx : opd φ x = some (velt b k i 0)) (hh : Has S (harr b k r xs sz))
    (hi : i < xs.length) (hk : k = k') : VOp P n φ S ⟨d, .load t x, ty, ps, af, g⟩ (vagg (r (xs[i]'hi))) := by
  refine ⟨fun c a hf ⟨fs, hs⟩ => ?_⟩
  have h1 : a.eval x = .pointer (some ⟨b, i * k + 0, none⟩) := hf.opd hx
  obtain ⟨f, _, _, _, h3⟩ := hh.get hs.all
  have h3' := h3 i _ (List.getElem?_eq_getElem hi)
  rw [Nat.zero_add] at h3'
  obtain ⟨v, h4, h5⟩ := run_var ht (h3'.1.trans hk) h3'.2 (.inl rfl)
  exact ⟨v, by
    intro w' hw'
    have h4 := h4 w' hw'
    simp [execOp, h1, Instr.loadAt, Instr.sureAddr, h4], h5⟩

/-! ### lengths -/
theorem VOp.lenSl {t e k' : TypeId} [ht : IsSl P t e k'] {k : Nat} {α : Type} {r : α → List VP} {xs : List α} {x : Operand} (hx : opd φ x = some (vsl k r xs)) :
    VOp P n φ S ⟨d, .call ⟨.builtin .len, #[x], #[t]⟩, ty, ps, af, g⟩ (vint (xs.length : Int)) := by
  refine ⟨fun c a hf hs => ?_⟩
  obtain ⟨ao, len, cap, h1, rfl, _⟩ := hf.opd hx
  exact ⟨.int .i64 (xs.length : Int), by intro w' hw'; simp [execOp, resolve, invoke, builtin, Builtin.len_, h1, goInt, run_underlying ht.u], rfl⟩
theorem VOp.lenOwn {t e k' : TypeId} [ht : IsSl P t e k'] {ao : Option Addr} {len cap : Nat} {x : Operand} (hx : opd φ x = some (vlit (.slice ao len cap))) :
    VOp P n φ S ⟨d, .call ⟨.builtin .len, #[x], #[t]⟩, ty, ps, af, g⟩ (vint (len : Int)) := by
  refine ⟨fun c a hf hs => ?_⟩
  have h1 : a.eval x = _ := hf.opd hx
  exact ⟨.int .i64 (len : Int), by intro w' hw'; simp [execOp, resolve, invoke, builtin, Builtin.len_, h1, goInt, run_underlying ht.u], rfl⟩
theorem VOp.lenStr {t : TypeId} [ht : IsStr P t] {s : ByteArray} {x : Operand} (hx : opd φ x = some (vlit (.string s))) :
    VOp P n φ S ⟨d, .call ⟨.builtin .len, #[x], #[t]⟩, ty, ps, af, g⟩ (vint (s.size : Int)) := by
  refine ⟨fun c a hf hs => ?_⟩
  have h1 : a.eval x = _ := hf.opd hx
  exact ⟨.int .i64 (s.size : Int), by intro w' hw'; simp [execOp, resolve, invoke, builtin, Builtin.len_, h1, goInt, run_underlying ht.u], rfl⟩

theorem VOp.nilCheck {x : Operand} {a0 : Addr} (hx : opd φ x = some (vlit (.pointer (some a0)))) : VOp P n φ S ⟨d, .nilCheck x, ty, ps, af, g⟩ (vlit (.pointer (some a0))) := by
  refine ⟨fun c a hf hs => ?_⟩
  have h1 : a.eval x = _ := hf.opd hx
  exact ⟨_, by intro w' hw'; simp [execOp, h1], rfl⟩
end
end Go.Proofs.Ytodlpdedldhebaa
