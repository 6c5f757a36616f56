/- A row of an owned list of rows is taken out where its slice value is read; stores of new rows and of truth values. Proved for every program P; conditions: the index in bounds. -/
import Derived.Test.YtemfpennomelaaaDoorCoreP
import Derived.MapKept
import Derived.Laws.BytesArg
import Derived.Lib.ReflectliteSwap
import Derived.KernelRfl
namespace Go.Proofs.YtemfpennomelaaaDoor
open Go
set_option linter.unusedVariables false

/-- an operation that yields a value and leaves the world alone; what is owned is told in other words -/
structure VOpF (P : Program) (n : Nat) (φ : Slots) (S : List HP) (o : Oper) (R : VP → List HP → Prop) : Prop where
  run : ∀ c a, FH c n φ a → SH c S → ∃ v r S', (∀ w', Same c.w w' → (execOp a.eval o).run P w' = .ok (.value v) w') ∧ r.p c v ∧ SH c S' ∧ R r S'

section
variable {P : Program} {n : Nat} {ops : Array Oper} {o : Oper} {l : List Oper} {K : Slots → List HP → Prop} {φ : Slots} {S : List HP} {id : Nat} {W : Nat → Bool} {m : Nat} {listed : Array Bool}
theorem RH.valueF {d : Nat} {R : VP → List HP → Prop} (hd : o.dst = some d) (hn : Nat.blt d n = true) (hv : VOpF P n φ S o R) (h : ∀ r S', R r S' → RL P n ops l K ((d, r) :: φ) S') : RH P n ops o l K φ S := by
  refine ⟨fun c a k hl hf hs => ?_⟩
  obtain ⟨v, r, S', he, hr, hs', hR⟩ := hv.run c a hf hs
  unfold Oper.wp
  rw [he c.w (.refl _), Oper.upon_value, hd]
  exact (h r S' hR).run c _ k hl (hf.put (Nat.blt_eq.mp hn) hr) hs'
theorem RD.takeF {d : Nat} {R : VP → List HP → Prop} (i : Nat) (l' : Array Bool) (hi : ops[i]? = some o) (hl : listed.setIfInBounds i true = l') (hw : Wants n ops φ o true) (hd : o.dst = some d) (hn : Nat.blt d n = true) (hr : (Region.ready .any ops listed).contains i = true)
    (D : Array Bool) (hf : freeW ops W D listed i = true) (hv : VOpF P n φ S o R) (h : ∀ r S', R r S' → RD P n id ops W K m l' ((d, r) :: φ) S') : RD P n id ops W K (m + 1) listed φ S := by
  subst hl
  refine ⟨fun c a hfh hs => ?_⟩
  obtain ⟨v, r, S', he, hp, hs', hR⟩ := hv.run c a hfh hs
  have hsel := Region.noSelect_spec (ops := ops) (by simp only [freeW, Bool.and_eq_true] at hf; exact hf.1)
  obtain ⟨f1, f2, f3⟩ := freeW_spec hi (by simp only [freeW, hi, Bool.and_eq_true] at hf; exact Nat.le_of_ble_eq_true hf.2.1) hf
  refine wpAnyM_first hi hsel f1 m listed a c.w f2 f3 (by simpa using hr) (.inl ⟨hw.wanted hfh, he⟩) ?_
  rw [hd]
  exact (h r S' hR).run c _ (hfh.put (Nat.blt_eq.mp hn) hp) hs'
end

section
variable {P : Program} {n : Nat} {φ : Slots} {S : List HP} {d : Option Tmp} {ty : TypeId} {ps : String} {af : Array Edge} {g : Option (Nat × Bool)}
theorem VOpF.loadRow {t : Nat} {x : Operand} {α : Type} {tr : TR α} {v : Value} {xs : List (List α)} {i : Nat} {S1 : List HP} {k' : Nat} [ht : IsVar P t false k'] (hx : opd φ x = some (vep v 1 i 0)) (hr : Rem S (hsl (tS tr) v xs) S1) (hi : i < xs.length) :
    VOpF P n φ S ⟨d, .load t x, ty, ps, af, g⟩ (fun r S' => ∃ u, r = vlit u ∧ S' = hsl tr u (xs[i]'hi) :: hsl (tHole (tS tr)) v ((xs.map .inl).set i (.inr [u])) :: S1) := by
  refine ⟨fun c a hf hs => ?_⟩
  obtain ⟨fs, f, hs⟩ := hs.rem hr
  obtain ⟨u, gs, h2⟩ := Go.Proofs.YtemfpennomelaaaDoor.focusRow hi hs
  obtain ⟨w, h3, h4⟩ := (VOp.loadHole (P := P) (n := n) (φ := φ) (d := d) (ty := ty) (ps := ps) (af := af) (g := g) (t := t) (tr := tS tr) (us := [u]) (u := u) hx (.tail .head) rfl hi rfl).run c a hf ⟨gs, h2⟩
  exact ⟨w, vlit u, _, h3, h4, ⟨gs, h2⟩, u, rfl, rfl⟩
theorem UOp.storeHB {t : TypeId} {x y : Operand} {gg : Bool} {v : Value} {xs : List Bool} {i : Nat} {z : Bool} {C : HP → List HP} [ht : IsVar P t gg 1]
    (hx : opd φ x = some (vep v 1 i 0)) (hy : opd φ y = some (vbool z)) (u' : Plc S (hsl tBool v xs) C) (hi : i < xs.length) : UOp P n φ S ⟨d, .store t x y, ty, ps, af, g⟩ (fun S'' => S'' = C (hsl tBool v (xs.set i z))) :=
  UOp.storeH (rv := fun x => .bool x) hx hy u' hi
/-- a row that stands in an array of its own is put in its place -/
theorem UOp.storeRowB {t : TypeId} {x y : Operand} {gg : Bool} {v : Value} {b l1 c1 : Nat} {xs : List (List Bool)} {i : Nat} {el : List Bool} {S1 : List HP} [ht : IsVar P t gg 1]
    (hx : opd φ x = some (vep v 1 i 0)) (hy : opd φ y = some (vsb b l1 c1)) (hp : Pick S [harr b 1 (fun x : Bool => [vbool x]) el (c1 * 1), hsl (tS tBool) v xs] S1) (hl : l1 = el.length) (hi : i < xs.length) :
    UOp P n φ S ⟨d, .store t x y, ty, ps, af, g⟩ (fun S'' => S'' = hsl (tS tBool) v (xs.set i el) :: S1) := by
  refine ⟨fun c a hf ⟨fs, hsf⟩ => ?_⟩
  obtain ⟨gs, hg, _⟩ := hp.sh hsf
  obtain ⟨gs2, h2⟩ := (SEnt.pack (rv := fun x => .bool x) (fun _ => rfl) hl) _ _ hg
  exact (UOp.storeRow (P := P) (n := n) (φ := φ) (T := tBool) (el := el) hx hy (.cons .head (.cons .head .nil)) hi).run c a hf ⟨gs2, h2⟩
theorem UOp.storeRowI {t : TypeId} {x y : Operand} {gg : Bool} {v : Value} {b l1 c1 : Nat} {xs : List (List Int)} {i : Nat} {el : List Int} {S1 : List HP} [ht : IsVar P t gg 1]
    (hx : opd φ x = some (vep v 1 i 0)) (hy : opd φ y = some (vsb b l1 c1)) (hp : Pick S [harr b 1 (fun x : Int => [vint x]) el (c1 * 1), hsl (tS tInt) v xs] S1) (hl : l1 = el.length) (hi : i < xs.length) :
    UOp P n φ S ⟨d, .store t x y, ty, ps, af, g⟩ (fun S'' => S'' = hsl (tS tInt) v (xs.set i el) :: S1) := by
  refine ⟨fun c a hf ⟨fs, hsf⟩ => ?_⟩
  obtain ⟨gs, hg, _⟩ := hp.sh hsf
  obtain ⟨gs2, h2⟩ := (SEnt.pack (rv := fun x => .int .i64 x) (fun _ => rfl) hl) _ _ hg
  exact (UOp.storeRow (P := P) (n := n) (φ := φ) (T := tInt) (el := el) hx hy (.cons .head (.cons .head .nil)) hi).run c a hf ⟨gs2, h2⟩
end
end Go.Proofs.YtemfpennomelaaaDoor

/- Function values that hold addresses: made, and called by contract. Proved for every program P; no conditions. -/
namespace Go.Proofs.YtemfpennomelaaaDoor
open Go
set_option linter.unusedVariables false

/-- operands of known values -/
inductive CapLit (φ : Slots) : List Operand → List Value → Prop
  | nil : CapLit φ [] []
  | cons {x : Operand} {v : Value} {xs : List Operand} {vs : List Value} : opd φ x = some (vlit v) → CapLit φ xs vs → CapLit φ (x :: xs) (v :: vs)
theorem CapLit.eval {φ : Slots} {c : Ctx} {n : Nat} {a : Act} (hf : FH c n φ a) {xs : List Operand} {vs : List Value} (h : CapLit φ xs vs) : xs.map a.eval = vs := by
  induction h with
  | nil => rfl
  | cons hx _ ih => rw [List.map_cons, ih]; have := hf.opd hx; cases this; rfl
section
variable {P : Program} {n : Nat} {φ : Slots} {S : List HP} {d : Option Tmp} {ty : TypeId} {ps : String} {af : Array Edge} {g : Option (Nat × Bool)}
theorem VOp.makeFunc {f : FuncId} {xs : List Operand} {vs : List Value} (h : CapLit φ xs vs) : VOp P n φ S ⟨d, .makeFunc (.func f) #[] xs.toArray, ty, ps, af, g⟩ (vlit (.func (.func f) #[] vs.toArray)) := by
  refine ⟨fun c a hf hs => ⟨.func (.func f) #[] vs.toArray, fun w' hw' => ?_, rfl⟩⟩
  have := h.eval hf
  simp [execOp, Instr.makeFunc, this]
end
theorem Args.append {c : Ctx} {ps qs : List VP} {vs ws : List Value} (h : Args c ps vs) (k : Args c qs ws) : Args c (ps ++ qs) (vs ++ ws) := by
  induction h with
  | nil => exact k
  | cons hp _ ih => exact .cons hp ih
section
variable {P : Program} {n : Nat} {ops : Array Oper} {o : Oper} {l : List Oper} {K : Slots → List HP → Prop} {φ : Slots} {S : List HP}
end

section
variable {P : Program} {n : Nat} {φ : Slots} {S : List HP} {d : Option Tmp} {ty : TypeId} {ps : String} {af : Array Edge} {g : Option (Nat × Bool)}
end

section
variable {P : Program} {n : Nat} {φ : Slots} {S : List HP} {d : Option Tmp} {ty : TypeId} {ps : String} {af : Array Edge} {g : Option (Nat × Bool)}
/-- elements at numbers that are written in the program -/
theorem VOp.indexSl0 {t e k : Nat} [ht : IsSl P t e k] {x y : Operand} {α : Type} {r : α → List VP} {xs : List α} (hx : opd φ x = some (vsl k r xs)) (hy : opd φ y = some (vint 0)) (hi : 0 < xs.length) : VOp P n φ S ⟨d, .indexAddr t x y, ty, ps, af, g⟩ (vfp (r (xs[0]'hi))) :=
  VOp.indexSlN (i := 0) hx hy hi
theorem VOp.indexSl1 {t e k : Nat} [ht : IsSl P t e k] {x y : Operand} {α : Type} {r : α → List VP} {xs : List α} (hx : opd φ x = some (vsl k r xs)) (hy : opd φ y = some (vint 1)) (hi : 1 < xs.length) : VOp P n φ S ⟨d, .indexAddr t x y, ty, ps, af, g⟩ (vfp (r (xs[1]'hi))) :=
  VOp.indexSlN (i := 1) hx hy hi
theorem VOp.indexSl2 {t e k : Nat} [ht : IsSl P t e k] {x y : Operand} {α : Type} {r : α → List VP} {xs : List α} (hx : opd φ x = some (vsl k r xs)) (hy : opd φ y = some (vint 2)) (hi : 2 < xs.length) : VOp P n φ S ⟨d, .indexAddr t x y, ty, ps, af, g⟩ (vfp (r (xs[2]'hi))) :=
  VOp.indexSlN (i := 2) hx hy hi
end
end Go.Proofs.YtemfpennomelaaaDoor

/- Sets of strings (maps from strings to bools), bytes, strings of bytes. Proved for every program P; conditions: those of the rules. -/
namespace Go.Proofs.YtemfpennomelaaaDoor
open Go
set_option linter.unusedVariables false

@[reducible] def vu8 (n : Int) : VP := vlit (.int .u8 n)
@[reducible] def vstr (s : ByteArray) : VP := vlit (.string s)
@[reducible] def vmap (b : Nat) : VP := vlit (.map (some b))
class IsU8 (P : Program) (t : TypeId) : Prop where
  u : P.underlying t = some (.int .u8)
class IsI64 (P : Program) (t : TypeId) : Prop where
  u : P.underlying t = some (.int .i64)
class IsSet (P : Program) (t : TypeId) : Prop where
  u : ∃ k e, P.underlying t = some (.map k e) ∧ P.underlying k = some .string ∧ ∀ w, (zeroValue e).run P w = .ok (.bool false) w

instance : ReflBEq ByteArray := ⟨fun {a} => (MapKept.bytes_beq a a).2 rfl⟩
instance : LawfulBEq ByteArray := ⟨fun {a b} h => (MapKept.bytes_beq a b).1 h⟩
/-- a set of strings of the call's own -/
def hset (b : Nat) (ks : List ByteArray) : HP :=
  ⟨fun c fs => fs = [b] ∧ ∃ es clock, c.w.heap[b]? = some (.map es clock) ∧ (∀ e ∈ es.toList, ∃ k ∈ ks, e.key = .string k ∧ e.val = .bool true) ∧ ∀ k ∈ ks, ∃ e ∈ es.toList, e.key = .string k,
   fun {_ _ _} _ hk h => by
    obtain ⟨rfl, es, clock, h1, h2, h3⟩ := h
    exact ⟨rfl, es, clock, (hk b (by simp)).trans h1, h2, h3⟩⟩

/-! ### an object of the heap is replaced -/
def setO (w : World) (b : Nat) (o : Obj) : World := { w with heap := w.heap.setIfInBounds b o }
theorem setO_other {w : World} {b : Nat} {o : Obj} {k : Nat} (h : k ≠ b) : (setO w b o).heap[k]? = w.heap[k]? := by
  simp only [setO, Array.getElem?_setIfInBounds_ne (Ne.symm h)]
theorem setO_at {w : World} {b : Nat} {o : Obj} (h : b < w.heap.size) : (setO w b o).heap[b]? = some o := by
  simp [setO, h]
theorem setO_size {w : World} {b : Nat} {o : Obj} : (setO w b o).heap.size = w.heap.size := by simp [setO]
theorem SH.putO {c : Ctx} {S S' : List HP} {h h' : HP} {b : Nat} {o0 o : Obj} (hs : SH c S) (u : Upd S h h' S') (hb : c.w.heap[b]? = some o0)
    (hf : ∀ f, h.p c f → f = [b]) (hp : (setO c.w b o).heap[b]? = some o → h'.p ⟨c.F, c.U, setO c.w b o⟩ [b]) : c.le ⟨c.F, c.U, setO c.w b o⟩ ∧ SH ⟨c.F, c.U, setO c.w b o⟩ S' := by
  obtain ⟨fs, hs⟩ := hs
  obtain ⟨A, B, rfl, rfl⟩ := u.split
  obtain ⟨f1, f, f2, rfl, h1, h2, h3⟩ := hs.middle
  obtain rfl := hf f h2
  have hlt : b < c.w.heap.size := (Array.getElem?_eq_some_iff.1 hb).1
  have hnF := hs.own b (by simp)
  have hl : c.le ⟨c.F, c.U, setO c.w b o⟩ := ⟨fun _ h => h, rfl, fun k hk => setO_other (fun e => hk.elim (fun h => hnF.1 (e ▸ h)) (fun h => hnF.2.1 (e ▸ h))), by simp [setO_size], rfl, rfl, rfl⟩
  exact ⟨hl, _, hs.replace hl h1 h3 (fun _ => .rfl) (fun k _ hk => setO_other (by simpa using hk)) (by simp [setO_size, hlt]) (by simp) (hp (setO_at hlt))⟩

/-! ### the paths through a piece of code meet again -/
theorem Run.mono {P : Program} {n : Nat} {x : Code} {Q Q' : Post} {φ : Slots} {S : List HP} (h : Run P n x Q φ S) (hq : ∀ e φ' S', Q e φ' S' → Q' e φ' S') : Run P n x Q' φ S :=
  ⟨fun c a hf hs => wp_mono (h.run c a hf hs) fun _ _ _ ⟨F', φ', S', h1, h2, h3, h4⟩ => ⟨F', φ', S', h1, h2, h3, hq _ _ _ h4⟩⟩
/-- what holds at the end of a piece of code, told for all paths -/
def Met {α : Type} (φy : α → Slots) (Sy : α → List HP) (Pr : α → Prop) : Post := fun e φ' S' => e = .normal ∧ ∃ y, Pr y ∧ Ent φ' S' (φy y) (Sy y)
theorem Run.cut {P : Program} {n : Nat} {x z : Code} {Q Q2 : Post} {φ : Slots} {S : List HP} {α : Type} (φy : α → Slots) (Sy : α → List HP) (Pr : α → Prop) (h1 : Run P n x (Met φy Sy Pr) φ S)
    (h2 : ∀ y, Pr y → Run P n z Q (φy y) (Sy y)) : Run P n x (Post.seq (Run P n z Q) Q2) φ S :=
  h1.mono fun e φ' S' ⟨he, y, hp, hen⟩ => by subst he; exact Run.weaken hen (h2 y hp)
theorem Met.mk {α : Type} {φy : α → Slots} {Sy : α → List HP} {Pr : α → Prop} {φ' : Slots} {S' : List HP} (y : α) (hp : Pr y) (h : Ent φ' S' (φy y) (Sy y)) : Met φy Sy Pr .normal φ' S' := ⟨rfl, y, hp, h⟩

section
variable {P : Program} {n : Nat} {φ : Slots} {S : List HP} {d : Option Tmp} {ty : TypeId} {ps : String} {af : Array Edge} {g : Option (Nat × Bool)}

/-- a new variable, as an operation that leaves what was there as it was -/
theorem EOpS.alloc {t : TypeId} {qs : List VP} [hz : IsNew P t qs] : EOpS P n φ S ⟨d, .alloc t, ty, ps, af, g⟩ (fun r S' => ∃ b, r = vptr b 0 ∧ S' = hcells b qs :: S) := by
  refine ⟨fun c a hf hs => ?_⟩
  obtain ⟨z, h1, h2⟩ := hz.z
  obtain ⟨hl, hs'⟩ := hs.new (k := 0) (o := .cells z.cells.toList.toArray t (0, 0)) (h := hcells c.w.heap.size qs) (fun hl => ⟨rfl, ⟨_, _, newW_new, by have := (h2 c).length; simpa using this.symm⟩, cellsAt_row newW_new (h2 _)⟩)
  exact ⟨.pointer (some ⟨c.w.heap.size, 0, none⟩), _, c.F, _, _, by simp [execOp, Instr.alloc, newVar, newRow, h1]; rfl, hl, ⟨fun b hb => newW_heap hb, by simp [newW]⟩, rfl, hs', _, rfl, rfl⟩

theorem EOp.makeSet {t : TypeId} [ht : IsSet P t] : EOp P n φ S ⟨d, .makeMap t none, ty, ps, af, g⟩ (fun r S' => ∃ b, r = vmap b ∧ S' = hset b [] :: S) := by
  refine ⟨fun c a hf hs => ?_⟩
  obtain ⟨hl, hs'⟩ := hs.new (k := 0) (o := .map #[] 0) (h := hset c.w.heap.size []) (fun hl => ⟨rfl, #[], 0, newW_new, by simp, by simp⟩)
  exact ⟨.map (some c.w.heap.size), _, c.F, _, _, by simp [execOp, Instr.makeMap]; rfl, hl, rfl, hs', _, rfl, rfl⟩

theorem UOp.setAdd {t : TypeId} [ht : IsSet P t] {x y z : Operand} {b : Nat} {ks : List ByteArray} {k : ByteArray} {C : HP → List HP} (hx : opd φ x = some (vmap b)) (hy : opd φ y = some (vstr k)) (hz : opd φ z = some (vbool true))
    (u' : Plc S (hset b ks) C) : UOp P n φ S ⟨d, .mapUpdate t x y z, ty, ps, af, g⟩ (fun S'' => S'' = C (hset b (ks ++ [k]))) := by
  refine ⟨fun c a hf hs => ?_⟩
  have u := u'.upd (hset b (ks ++ [k]))
  have h1 : a.eval x = _ := hf.opd hx
  have h2 : a.eval y = _ := hf.opd hy
  have h3 : a.eval z = _ := hf.opd hz
  obtain ⟨kt, et, hm, hd, _⟩ := ht.u
  have hs0 := hs
  obtain ⟨fs, hsf⟩ := hs
  obtain ⟨f, _, rfl, es, clock, hb, hin, hall⟩ := u.has.get hsf.all
  have hks : ∀ e ∈ es.toList, MapKept.IsKey .string e.key := fun e he => by obtain ⟨k, _, h, _⟩ := hin e he; rw [h]; trivial
  have hk : MapKept.IsKey .string (.string k) := trivial
  rcases MapKept.findNow_spec hk es.toList 0 hks with ⟨h4, h5⟩ | ⟨j, e, h4, h5, h6⟩
  · obtain ⟨hl, hs'⟩ := hs0.putO u hb (o := .map (es.push { key := .string k, val := .bool true, born := clock }) (clock + 1)) (fun f h => h.1) (fun hnew => by
      refine ⟨rfl, _, _, hnew, ?_, ?_⟩
      · intro e he
        simp only [Array.toList_push, List.mem_append, List.mem_singleton] at he
        rcases he with he | rfl
        · obtain ⟨k', hk', h⟩ := hin e he; exact ⟨k', by simp [hk'], h⟩
        · exact ⟨k, by simp, rfl, rfl⟩
      · intro k' hk'
        simp only [List.mem_append, List.mem_singleton] at hk'
        rcases hk' with hk' | rfl
        · obtain ⟨e, he, h⟩ := hall k' hk'; exact ⟨e, by simp [he], h⟩
        · exact ⟨{ key := .string k', val := .bool true, born := clock }, by simp, rfl⟩)
    exact ⟨_, c.F, _, by simp [execOp, h1, h2, h3, Instr.mapUpdate, run_underlying hm, MapKept.run_getObj_map hb, MapKept.run_checkKey hd hk, MapKept.run_findKey hd h4, MapKept.run_setObj_map _ hb]; rfl, hl, hs', rfl⟩
  · have hj : es[j]? = some e := by simpa using h5
    have hkey : ∀ e', es[j]? = some e' → ({ e' with key := .string k, val := .bool true } : MapEntry).key = e'.key := fun e' he' => by rw [hj] at he'; cases he'; exact h6.symm
    obtain ⟨hl, hs'⟩ := hs0.putO u hb (o := .map (es.modify j fun e => { e with key := .string k, val := .bool true }) clock) (fun f h => h.1) (fun hnew => by
      refine ⟨rfl, _, _, hnew, ?_, ?_⟩
      · intro e' he'
        rw [List.mem_iff_getElem?] at he'
        obtain ⟨i, hi⟩ := he'
        simp only [Array.getElem?_toList, Array.getElem?_modify] at hi
        by_cases hij : j = i
        · subst hij
          rw [if_pos rfl, hj] at hi
          simp only [Option.map_some, Option.some.injEq] at hi
          subst hi
          exact ⟨k, by simp, rfl, rfl⟩
        · rw [if_neg hij] at hi
          have : e' ∈ es.toList := List.mem_iff_getElem?.2 ⟨i, by simpa using hi⟩
          obtain ⟨k', hk', h⟩ := hin e' this; exact ⟨k', by simp [hk'], h⟩
      · have hkeys := MapKept.modify_keys (es := es) j _ hkey
        have h7 : ∀ k', (∃ e ∈ es.toList, e.key = .string k') → ∃ e ∈ (es.modify j fun e => { e with key := Value.string k, val := Value.bool true }).toList, e.key = .string k' := fun k' ⟨e', he', h'⟩ => by
          have : Value.string k' ∈ es.toList.map (·.key) := List.mem_map.2 ⟨e', he', h'⟩
          rw [← hkeys] at this
          obtain ⟨y, hy, e⟩ := List.mem_map.1 this
          exact ⟨y, hy, e⟩
        intro k' hk'
        simp only [List.mem_append, List.mem_singleton] at hk'
        rcases hk' with hk' | rfl
        · exact h7 k' (hall k' hk')
        · exact h7 k' ⟨e, List.mem_iff_getElem?.2 ⟨j, h5⟩, h6⟩)
    exact ⟨_, c.F, _, by simp [execOp, h1, h2, h3, Instr.mapUpdate, run_underlying hm, MapKept.run_getObj_map hb, MapKept.run_checkKey hd hk, MapKept.run_findKey hd h4, hj, h6, MapKept.run_keyThatStays hk, MapKept.run_setObj_map _ hb]; rfl, hl, hs', rfl⟩

theorem VOp.setHas {t : TypeId} [ht : IsSet P t] {x y : Operand} {b : Nat} {ks : List ByteArray} {k : ByteArray} (hx : opd φ x = some (vmap b)) (hy : opd φ y = some (vstr k)) (hh : Has S (hset b ks)) :
    VOp P n φ S ⟨d, .lookup t x y false, ty, ps, af, g⟩ (vbool (decide (k ∈ ks))) := by
  refine ⟨fun c a hf ⟨fs, hs⟩ => ?_⟩
  have h1 : a.eval x = _ := hf.opd hx
  have h2 : a.eval y = _ := hf.opd hy
  obtain ⟨kt, et, hm, hd, hz⟩ := ht.u
  obtain ⟨f, _, _, es, clock, hb, hin, hall⟩ := hh.get hs.all
  have hks : ∀ e ∈ es.toList, MapKept.IsKey .string e.key := fun e he => by obtain ⟨k, _, h, _⟩ := hin e he; rw [h]; trivial
  have hk : MapKept.IsKey .string (.string k) := trivial
  have hlt : b < c.w.heap.size := (Array.getElem?_eq_some_iff.1 hb).1
  refine ⟨.bool (decide (k ∈ ks)), fun w' hw' => ?_, rfl⟩
  have hb' : w'.heap[b]? = some (.map es clock) := (hw'.heap b hlt).trans hb
  rcases MapKept.findNow_spec hk es.toList 0 hks with ⟨h4, h5⟩ | ⟨j, e, h4, h5, h6⟩
  · have hno : ¬ k ∈ ks := fun h => by obtain ⟨e, he, h'⟩ := hall k h; exact h5 e he h'
    simp [execOp, h1, h2, Instr.lookup, run_underlying hm, MapKept.run_getObj_map hb', MapKept.run_checkKey hd hk, MapKept.run_findKey hd h4, hz, hno]
  · have hmem : e ∈ es.toList := List.mem_iff_getElem?.2 ⟨j, h5⟩
    obtain ⟨k', hk', h7, h8⟩ := hin e hmem
    rw [h6] at h7
    have hkk : k ∈ ks := by cases h7; exact hk'
    simp [execOp, h1, h2, Instr.lookup, run_underlying hm, MapKept.run_getObj_map hb', MapKept.run_checkKey hd hk, MapKept.run_findKey hd h4, h8, hkk]

/-! ### bytes -/
theorem VOp.shr8 {t t' : TypeId} {x y : Operand} {i : Int} (hx : opd φ x = some (vint i)) (hy : opd φ y = some (vlit (.int .u64 8))) : VOp P n φ S ⟨d, .binOp .shr t x y t', ty, ps, af, g⟩ (vint (i / 256)) := by
  refine ⟨fun c a hf hs => ⟨.int .i64 (i / 256), fun w' hw' => ?_, rfl⟩⟩
  have h1 : a.eval x = _ := hf.opd hx
  have h2 : a.eval y = _ := hf.opd hy
  have e : i.fdiv (2 ^ (min (8 : Int).toNat IntKind.i64.bits)) = i / 256 := Int.fdiv_eq_ediv_of_nonneg i (by decide)
  simp only [execOp, h1, h2, eqGuard, binOp, Op.shift]
  simp [show ¬ ((8 : Int) < 0) by decide]
  exact e

theorem VOp.toU8 {t t2 : TypeId} [hs : IsI64 P t] [ht : IsU8 P t2] {x : Operand} {i : Int} (hx : opd φ x = some (vint i)) : VOp P n φ S ⟨d, .convert t t2 x, ty, ps, af, g⟩ (vu8 (i % 256)) := by
  refine ⟨fun c a hf hs' => ⟨.int .u8 (i % 256), fun w' hw' => ?_, rfl⟩⟩
  have h1 : a.eval x = _ := hf.opd hx
  have e : IntKind.u8.wrap i = i % 256 := by simp [IntKind.wrap, IntKind.bits, IntKind.signed]
  simp [execOp, h1, convert, run_underlying hs.u, run_underlying ht.u, Conv.intToInt, e]

/-- a row of bytes as a string -/
theorem VOp.toStr {t t2 : TypeId} {e k : Nat} [ht : IsSl P t e k] [he : IsU8 P e] [hd : IsStr P t2] {x : Operand} {b len cap sz : Nat} {xs : List Int} (hx : opd φ x = some (vsb b len cap)) (hh : Has S (harr b 1 (fun x : Int => [vu8 x]) xs sz)) (hl : xs.length = len) :
    VOp P n φ S ⟨d, .convert t t2 x, ty, ps, af, g⟩ (vstr (strOfNums xs)) := by
  refine ⟨fun c a hf ⟨fs, hs⟩ => ?_⟩
  have h1 : a.eval x = _ := hf.opd hx
  obtain ⟨f, _, _, ⟨arr, tt, hb, hsz, hfit⟩, hE⟩ := hh.get hs.all
  refine ⟨.string (strOfNums xs), fun w' hw' => ?_, rfl⟩
  have hc : ∀ i, i < len → w'.cell? ⟨b, 0 + i, none⟩ = some (.int .u8 (xs.getD i 0)) := fun i hi => by
    obtain ⟨_, h5⟩ := hE i _ (List.getElem?_eq_getElem (by omega))
    obtain ⟨v, h6, h7⟩ := h5 0 _ rfl
    have h8 : v = .int .u8 xs[i] := h7
    subst h8
    have := hw'.cell h6
    simp only [Nat.mul_one, Nat.add_zero] at this
    rw [this]
    simp [List.getD, List.getElem?_eq_getElem (show i < xs.length by omega)]
  have := run_convert_bytes_arg (P := P) w' t e ht.u he.u b 0 len cap xs hl hc t2 hd.u
  simp [execOp, h1, this]
end
end Go.Proofs.YtemfpennomelaaaDoor

/- Frozen rows as elements of owned slices; results that are frozen at once; append of structs with owned rows. Proved for every program P; conditions: indices in bounds, small sizes. -/
namespace Go.Proofs.YtemfpennomelaaaDoor
open Go
set_option linter.unusedVariables false

/-! ### frozen rows as elements -/
def tRow : TR (List Int) := tVP 1 (fun t : List Int => [vsl 1 (fun x : Int => [vint x]) t]) (fun _ => rfl) inferInstance
instance : Frz tRow (fun t : List Int => [vsl 1 (fun x : Int => [vint x]) t]) := ⟨fun c x vs f h _ => h.1⟩
theorem tRow_p {c : Ctx} {x : List Int} {vs : List Value} {f : List Nat} (h : tRow.p c x vs f) : ∃ v, vs = [v] ∧ f = [] ∧ (vsl 1 (fun x : Int => [vint x]) x).p c v := by
  obtain ⟨h1, h2⟩ := h
  cases h1 with
  | cons h3 h4 => cases h4; exact ⟨_, rfl, h2, h3⟩
section
variable {P : Program} {n : Nat} {φ : Slots} {S : List HP} {d : Option Tmp} {ty : TypeId} {ps : String} {af : Array Edge} {g : Option (Nat × Bool)}
theorem VOp.loadRowF {t : Nat} {x : Operand} {v : Value} {xs : List (List Int)} {i : Nat} {k' : Nat} [ht : IsVar P t false k'] (hx : opd φ x = some (vep v 1 i 0)) (hh : Has S (hsl tRow v xs))
    (hi : i < xs.length) : VOp P n φ S ⟨d, .load t x, ty, ps, af, g⟩ (vsl 1 (fun x : Int => [vint x]) (xs[i]'hi)) := by
  refine ⟨fun c a hf ⟨fs, hs⟩ => ?_⟩
  obtain ⟨f, _, hp⟩ := hh.get hs.all
  rcases hp with ⟨rfl, _, _⟩ | ⟨b, cap, arr, tt, vss, fss, rfl, hb, hsz, hcap, hr, htk, _⟩
  · simp at hi
  · have hx' : a.eval x = .pointer (some ⟨b, 0 + (i * 1 + 0), none⟩) := hf.opd hx
    rw [Nat.zero_add, Nat.mul_one, Nat.add_zero] at hx'
    obtain ⟨v1, vs, v2, f1, f, f2, rfl, rfl, h3, h4, h5, _⟩ := hr.at i _ (List.getElem?_eq_getElem hi)
    obtain ⟨u, rfl, _, hu⟩ := tRow_p h5
    have hcell : c.w.cell? ⟨b, i, none⟩ = some u := by
      have hk : tRow.k = 1 := rfl
      rw [hk, Nat.mul_one] at h4 htk
      have : (arr.toList.take xs.length)[i]? = some u := by
        rw [htk, List.flatten_append, List.getElem?_append_right (by omega), h4, List.flatten_cons]; simp
      rw [List.getElem?_take, if_pos hi] at this
      rw [cell_row hb]; simpa using this
    exact ⟨_, by intro w' hw'; have h4 := hw'.cell hcell; simp [execOp, hx', Instr.loadAt, Instr.sureAddr, loadVar, ht.g, h4], hu⟩

theorem VOp.loadHI {t : Nat} {x : Operand} {v : Value} {xs : List Int} {i : Nat} {k' : Nat} [ht : IsVar P t false k'] (hx : opd φ x = some (vep v 1 i 0)) (hh : Has S (hsl tInt v xs))
    (hi : i < xs.length) : VOp P n φ S ⟨d, .load t x, ty, ps, af, g⟩ (vint (xs[i]'hi)) := VOp.loadH (rv := fun x : Int => .int .i64 x) (h1 := fun _ => rfl) hx hh hi
theorem VOp.loadHB {t : Nat} {x : Operand} {v : Value} {xs : List Bool} {i : Nat} {k' : Nat} [ht : IsVar P t false k'] (hx : opd φ x = some (vep v 1 i 0)) (hh : Has S (hsl tBool v xs))
    (hi : i < xs.length) : VOp P n φ S ⟨d, .load t x, ty, ps, af, g⟩ (vbool (xs[i]'hi)) := VOp.loadH (rv := fun x : Bool => .bool x) (h1 := fun _ => rfl) hx hh hi
/-- make, as an operation that leaves what was there as it was -/
theorem EOpS.make {t e k by' : Nat} {z : Value} [ht : IsSlM P t e k by' z] {x y : Operand} {l m : Nat} {α : Type} (r : α → List VP) (x0 : α) (hz : ∀ c, VPs c (r x0) z.cells.toList)
    (hx : opd φ x = some (vint (l : Int))) (hy : opd φ y = some (vint (m : Int))) (hlm : l ≤ m) (hb : by' * m ≤ 140737488355328) (hm : m ≤ 140737488355328) :
    EOpS P n φ S ⟨d, .makeSlice t x y, ty, ps, af, g⟩ (fun q S' => ∃ b, q = vsb b l m ∧ S' = harr b k r (List.replicate m x0) (m * k) :: S) := by
  refine ⟨fun c a hf hs => ?_⟩
  obtain ⟨i, hu, hi, hz0, rfl, rfl, hzs, hk⟩ := ht.ex
  have h1 : a.eval x = .int .i64 l := hf.opd hx
  have h2 : a.eval y = .int .i64 m := hf.opd hy
  have hbb : (i.bytes : Int) * (m : Int) ≤ 281474976710656 := by
    have : (i.bytes : Int) * (m : Int) = ((i.bytes * m : Nat) : Int) := by simp
    rw [this]; omega
  have hrun := run_make (P := P) c.w t e i z hu hi hz0 .i64 .i64 (l : Int) (m : Int) (by omega) (by omega) hbb (by omega)
  simp only [Int.toNat_natCast] at hrun
  obtain ⟨hl, hs'⟩ := hs.new (k := 0) (o := .cells (madeCells z.cells (m * i.size)) e (0, 0)) (h := harr c.w.heap.size i.size r (List.replicate m x0) (m * i.size)) (fun hl =>
    ⟨rfl, ⟨_, _, newW_new, by simp [madeCells], by simp⟩, fun j x hx => by
      have hx' : x = x0 := by
        have := List.mem_of_getElem? hx
        simpa using (List.mem_replicate.1 this).2
      have hj : j < m := by have := (List.getElem?_eq_some_iff.1 hx).1; simpa using this
      subst hx'
      have hlen : (r x).length = i.size := by rw [(hz c).length, Array.length_toList, hzs]
      refine ⟨hlen, fun o p hp => ?_⟩
      have ho : o < i.size := by rw [← hlen]; exact (List.getElem?_eq_some_iff.1 hp).1
      obtain ⟨v, h3, h4⟩ := (hz ⟨c.F, c.U, newW c.w 0 _⟩).get o p hp
      refine ⟨v, ?_, h4⟩
      rw [cell_row newW_new, Nat.zero_add]
      have hlt : j * i.size + o < m * i.size := by
        calc j * i.size + o < j * i.size + i.size := by omega
          _ = (j + 1) * i.size := by rw [Nat.succ_mul]
          _ ≤ m * i.size := Nat.mul_le_mul_right _ hj
      have e1 : (madeCells z.cells (m * i.size))[j * i.size + o]? = some (z.cells[(j * i.size + o) % z.cells.size]!) := by
        simp [madeCells, hlt]
      rw [e1, hzs, mod_at (a := 0) ho]
      have h5 : z.cells[o]? = some v := by simpa using h3
      obtain ⟨h6, h7⟩ := Array.getElem?_eq_some_iff.1 h5
      rw [getElem!_pos z.cells o h6, h7]⟩)
  refine ⟨_, _, c.F, _, _, ?_, hl, ⟨fun b hb => newW_heap hb, by simp [newW]⟩, rfl, hs', _, rfl, rfl⟩
  show Sem.run P (execOp a.eval _) c.w = _
  simp only [execOp, h1, h2, Sem.run_bind, hrun, Result.andThen_ok, Sem.run_pure]
  rfl
/-- append of one frozen row, which a literal of one element holds -/
theorem EOp.appF {t t2 e e2 k2 by' : Nat} {z : Value} [ht : IsSlM P t e 1 by' z] [h2 : IsSl P t2 e2 k2] {x y : Operand} {v : Value} {xs : List (List Int)} {el : List Int} {b2 m2 sz2 : Nat} {S1 : List HP}
    (hx : opd φ x = some (vlit v)) (hy : opd φ y = some (vsb b2 1 m2)) (hp : Pick S [harr b2 1 (fun t : List Int => [vsl 1 (fun x : Int => [vint x]) t]) [el] sz2, hsl tRow v xs] S1)
    (hbound : (xs.length + 1) * by' ≤ 140737488355328) (h63 : xs.length + 1 ≤ 140737488355328) :
    EOp P n φ S ⟨d, .call ⟨.builtin .append, #[x, y], #[t, t2]⟩, ty, ps, af, g⟩ (fun q S' => ∃ s : Sv, q = vlit (vsv s) ∧ S' = hsl tRow (vsv s) (xs ++ [el]) :: S1) := by
  refine ⟨fun c a hf ⟨fs0, hs0⟩ => ?_⟩
  obtain ⟨fs, hs, _⟩ := hp.sh hs0
  obtain ⟨f, gs, rfl, hh⟩ := SHf.head (S := _) hs
  have hh2 := hh
  obtain ⟨rfl, ⟨arr, tt, hb, hsz, hfit⟩, hE⟩ := hh2
  obtain ⟨u, h3, h4⟩ := (hE 0 el rfl).2 0 _ rfl
  have hlit : (harr b2 1 (List.map vlit) [[u]] sz2).p c [b2] := ⟨rfl, ⟨arr, tt, hb, hsz, by simpa using hfit⟩, fun i x hx => by
    match i, hx with
    | 0, hx =>
      cases hx
      refine ⟨rfl, fun j p hp => ?_⟩
      match j, hp with
      | 0, hp => cases hp; exact ⟨u, h3, rfl⟩⟩
  have hs2 : SHf c (hel tRow el [u] :: harr b2 1 (List.map vlit) [[u]] sz2 :: hsl tRow v xs :: S1) ([] :: [b2] :: gs) := (hs.turn hlit).cons0 ⟨.cons h4 .nil, rfl⟩
  have h1 : EOp P n φ (hel tRow el [u] :: harr b2 1 (List.map vlit) [[u]] sz2 :: hsl tRow v xs :: S1) ⟨d, .call ⟨.builtin .append, #[x, y], #[t, t2]⟩, ty, ps, af, g⟩ _ :=
    EOp.appH (tr := tRow) hx hy (.tail .head) (.cons .head (.cons (.tail .head) .nil)) rfl hbound h63
  obtain ⟨u, w', F', r, S', he, hle, hr, ⟨fs', hs'⟩, v', rfl, rfl⟩ := h1.run c a hf ⟨_, hs2⟩
  obtain ⟨f, gs', rfl, hh⟩ := hs'.head
  obtain ⟨ao, cap, rfl⟩ := ownS.shape hh
  obtain ⟨gs2, hg2⟩ := ((SEnt.pick (B := [harr b2 1 (List.map vlit) [[_]] sz2]) (.cons (.tail .head) .nil)).trans SEnt.drop) _ _ hs'
  exact ⟨u, w', F', _, _, he, hle, hr, ⟨gs2, hg2⟩, (ao, (xs ++ [el]).length, cap), rfl, rfl⟩

/-- append of one struct of a number and an owned row, which a literal of one element holds -/
theorem EOp.appPI {t t2 e e2 k2 by' : Nat} {z : Value} [ht : IsSlM P t e 2 by' z] [h2 : IsSl P t2 e2 k2] {x y : Operand} {α : Type} {tr : TR α} {v v1 : Value} {w : Int} {xs : List (Int × List α)} {el : List α} {b2 m2 sz2 : Nat} {S1 : List HP}
    (hx : opd φ x = some (vlit v)) (hy : opd φ y = some (vsb b2 1 m2)) (hp : Pick S [harr b2 2 (List.map vlit) [[.int .i64 w, v1]] sz2, hsl tr v1 el, hsl (tPair tInt (tS tr)) v xs] S1)
    (hbound : (xs.length + 1) * by' ≤ 140737488355328) (h63 : xs.length + 1 ≤ 140737488355328) :
    EOp P n φ S ⟨d, .call ⟨.builtin .append, #[x, y], #[t, t2]⟩, ty, ps, af, g⟩ (fun q S' => ∃ s : Sv, q = vlit (vsv s) ∧ S' = hsl (tPair tInt (tS tr)) (vsv s) (xs ++ [(w, el)]) :: S1) := by
  refine ⟨fun c a hf ⟨fs0, hs0⟩ => ?_⟩
  obtain ⟨fs, hs, _⟩ := hp.sh hs0
  have hE : SEnt (harr b2 2 (List.map vlit) [[.int .i64 w, v1]] sz2 :: hsl tr v1 el :: hsl (tPair tInt (tS tr)) v xs :: S1) (hel (tPair tInt (tS tr)) (w, el) [.int .i64 w, v1] :: hsl (tPair tInt (tS tr)) v xs :: harr b2 2 (List.map vlit) [[.int .i64 w, v1]] sz2 :: S1) :=
    (SEnt.pick (B := [hsl tr v1 el]) (.cons (.tail .head) .nil)).trans (SEnt.elP.trans (SEnt.pick (B := [hel (tPair tInt (tS tr)) (w, el) [.int .i64 w, v1], hsl (tPair tInt (tS tr)) v xs]) (.cons .head (.cons (.tail .head) .nil))))
  obtain ⟨gs, hg⟩ := hE c fs hs
  have h1 : EOp P n φ (hel (tPair tInt (tS tr)) (w, el) [.int .i64 w, v1] :: hsl (tPair tInt (tS tr)) v xs :: harr b2 2 (List.map vlit) [[.int .i64 w, v1]] sz2 :: S1) ⟨d, .call ⟨.builtin .append, #[x, y], #[t, t2]⟩, ty, ps, af, g⟩ _ :=
    EOp.appH (tr := tPair tInt (tS tr)) hx hy (.tail (.tail .head)) (.cons .head (.cons .head .nil)) rfl hbound h63
  obtain ⟨u, w', F', r, S', he, hle, hr, ⟨fs', hs'⟩, v', rfl, rfl⟩ := h1.run c a hf ⟨gs, hg⟩
  obtain ⟨f, gs', rfl, hh⟩ := hs'.head
  obtain ⟨ao, cap, rfl⟩ := ownS.shape hh
  obtain ⟨gs2, hg2⟩ := ((SEnt.pick (B := [harr b2 2 (List.map vlit) [[.int .i64 w, v1]] sz2]) (.cons (.tail .head) .nil)).trans SEnt.drop) _ _ hs'
  exact ⟨u, w', F', _, _, he, hle, hr, ⟨gs2, hg2⟩, (ao, (xs ++ [(w, el)]).length, cap), rfl, rfl⟩
/-- the number at the head of a struct is written -/
theorem UOp.storePI0 {t : TypeId} {x y : Operand} {gg : Bool} {β : Type} {T : TR β} {k : Nat} {v : Value} {xs : List (Int × β)} {i : Nat} {w : Int} {C : HP → List HP} [ht : IsVar P t gg 1]
    (hx : opd φ x = some (vep v k i 0)) (hy : opd φ y = some (vint w)) (u' : Plc S (hsl (tPair tInt T) v xs) C) (hk : (tPair tInt T).k = k) (hi : i < xs.length) : UOp P n φ S ⟨d, .store t x y, ty, ps, af, g⟩ (fun S'' => S'' = C (hsl (tPair tInt T) v (xs.set i (w, (xs[i]'hi).2)))) := by
  refine ⟨fun c a hf hs => ?_⟩
  subst hk
  have u := u'.upd (hsl (tPair tInt T) v (xs.set i (w, (xs[i]'hi).2)))
  have hy' : a.eval y = .int .i64 w := hf.opd hy
  obtain ⟨fs, hsf⟩ := hs
  obtain ⟨A, B, hS, hS'⟩ := u.split
  subst hS
  rw [hS']
  obtain ⟨f1, f, f2, rfl, hA, hp, hB⟩ := hsf.middle
  rcases hp with ⟨rfl, _, _⟩ | ⟨b, cap, arr, tt, vss, fss, rfl, hb, hsz, hcap, hr, htk, rfl⟩
  · simp at hi
  · have hx' : a.eval x = .pointer (some ⟨b, 0 + (i * (tPair tInt T).k + 0), none⟩) := hf.opd hx
    rw [Nat.zero_add, Nat.add_zero] at hx'
    obtain ⟨v1, us, v2, g1, gg', g2, rfl, rfl, h3, h4, h5, h6⟩ := hr.at i _ (List.getElem?_eq_getElem hi)
    obtain ⟨ua, ub, ga, gb, rfl, rfl, ⟨rfl, rfl⟩, h8⟩ := h5
    have hfitL : xs.length * (tPair tInt T).k ≤ arr.size := by rw [hsz]; exact Nat.mul_le_mul_right _ hcap
    have hflen := congrArg List.length htk
    rw [List.length_take, Nat.min_eq_left (by simpa using hfitL)] at hflen
    have hcut : arr.toList = v1.flatten ++ (.int .i64 xs[i].1 :: ub ++ (v2.flatten ++ arr.toList.drop (xs.length * (tPair tInt T).k))) := by
      conv => lhs; rw [← List.take_append_drop (xs.length * (tPair tInt T).k) arr.toList, htk]
      simp
    have hsz2 : arr.size = (v1.flatten ++ (.int .i64 xs[i].1 :: ub ++ (v2.flatten ++ arr.toList.drop (xs.length * (tPair tInt T).k)))).length := by rw [← hcut]; simp
    have hfit : i * (tPair tInt T).k + [Value.int .i64 w].length ≤ arr.size := by
      rw [hsz2]; simp only [List.length_append, List.length_cons, h4, List.length_nil]; omega
    have hrun := run_put (P := P) (vs := [Value.int .i64 w]) hb hfit (by simp [Value.oneCell'])
    have hlt : b < c.w.heap.size := (Array.getElem?_eq_some_iff.1 hb).1
    have hbo := hsf.own b (by simp)
    let arr' := (arr.toList.take (i * (tPair tInt T).k) ++ [Value.int .i64 w] ++ arr.toList.drop (i * (tPair tInt T).k + [Value.int .i64 w].length)).toArray
    have e1 : arr.toList.take (i * (tPair tInt T).k) = v1.flatten := by rw [hcut]; exact List.take_left' h4
    have e2 : arr.toList.drop (i * (tPair tInt T).k + [Value.int .i64 w].length) = ub ++ (v2.flatten ++ arr.toList.drop (xs.length * (tPair tInt T).k)) := by
      conv => lhs; rw [hcut, show v1.flatten ++ (Value.int .i64 xs[i].1 :: ub ++ (v2.flatten ++ arr.toList.drop (xs.length * (tPair tInt T).k))) = (v1.flatten ++ [Value.int .i64 xs[i].1]) ++ (ub ++ (v2.flatten ++ arr.toList.drop (xs.length * (tPair tInt T).k))) by simp]
      exact List.drop_left' (by simp [h4])
    have hl : c.le ⟨c.F, c.U, setW c.w b arr' tt⟩ := ⟨fun _ h => h, rfl, fun k hk => setW_other (fun e => hk.elim (fun h => hbo.1 (e ▸ h)) (fun h => hbo.2.1 (e ▸ h))), by simp [setW_size], rfl, rfl, rfl⟩
    have hnd : (b :: (g1 ++ ([] ++ gb) :: g2).flatten).Nodup := by
      have := hsf.nodup
      simp only [List.flatten_append, List.flatten_cons, List.nodup_append] at this
      simpa using this.2.1.1
    have hs' := hsf.replace (h' := hsl (tPair tInt T) (.slice (some ⟨b, 0, none⟩) xs.length cap) (xs.set i (w, (xs[i]'hi).2))) (f' := b :: (g1 ++ ([] ++ gb) :: g2).flatten) hl hA hB (fun _ => .rfl) (fun k _ hk => setW_other (fun e => by subst e; simp at hk)) (by
        intro k hk
        refine ⟨.inl hk, ?_⟩
        have := (hsf.own k (by rw [List.flatten_append, List.flatten_cons, List.mem_append, List.mem_append]; exact .inr (.inl hk))).2.2
        simpa [setW_size] using this) hnd (by
      have hnew := setW_at (w := c.w) (arr := arr') (t := tt) hlt
      refine .inr ⟨b, cap, arr', tt, v1 ++ (Value.int .i64 w :: ub) :: v2, g1 ++ ([] ++ gb) :: g2, by simp, hnew, by rw [← hsz]; exact put_size hfit, by simpa using hcap, ?_, ?_, rfl⟩
      · have hne : b ∉ gb := fun h => by
          simp only [List.nodup_cons, List.flatten_append, List.mem_append, List.flatten_cons] at hnd
          exact hnd.1 (.inr (.inl (.inr h)))
        refine h6 (w, (xs[i]'hi).2) (Value.int .i64 w :: ub) ([] ++ gb) _ ⟨[.int .i64 w], ub, [], gb, rfl, rfl, ⟨rfl, rfl⟩, T.mono hl.v (fun k hk => setW_other (fun e => hne (e ▸ hk))) h8⟩ hl.v (fun k hk => setW_other (fun e => ?_)) (fun k hk => setW_other (fun e => ?_))
        · subst e; simp only [List.nodup_cons, List.flatten_append, List.mem_append] at hnd; exact hnd.1 (.inl hk)
        · subst e; simp only [List.nodup_cons, List.flatten_append, List.mem_append, List.flatten_cons] at hnd; exact hnd.1 (.inr (.inr hk))
      · have e3 : arr'.toList = (v1 ++ (Value.int .i64 w :: ub) :: v2).flatten ++ arr.toList.drop (xs.length * (tPair tInt T).k) := by
          simp only [arr', e1, e2]; simp
        rw [e3]
        refine List.take_left' ?_
        rw [List.length_set, hflen]; simp)
    refine ⟨_, c.F, _, ?_, hl, ⟨_, hs'⟩, rfl⟩
    have hc1 : (Value.int .i64 w).cells = #[Value.int .i64 w] := rfl
    simp [execOp, hx', hy', Instr.storeAt, Instr.sureAddr, storeVar, ht.s, hc1, hrun, arr']
end

/-! ### frozen at once -/
theorem frzAt {φ : Slots} {S : List HP} {d : Nat} {v : Value} {h : HP} {q : VP} {c : Ctx} {n : Nat} {a : Act} {f : List Nat} {gs : List (List Nat)} (hf : FH c n ((d, vlit v) :: φ) a) (hs : SHf c (h :: S) (f :: gs)) (hh : h.p c f)
    (hq : ∀ F', c.le ⟨F', c.U, c.w⟩ → h.p ⟨F', c.U, c.w⟩ f → (∀ b ∈ f, F' b) → q.p ⟨F', c.U, c.w⟩ v) : ∃ F', c.le ⟨F', c.U, c.w⟩ ∧ FH ⟨F', c.U, c.w⟩ n ((d, q) :: φ) a ∧ SH ⟨F', c.U, c.w⟩ S := by
  obtain ⟨hall, hnd, hown, hfro, hdis⟩ := hs
  simp only [List.flatten_cons] at hnd hown
  simp only [List.mem_append] at hown
  have hndB := List.nodup_append.1 hnd
  have hle : c.le ⟨fun b => c.F b ∨ b ∈ f, c.U, c.w⟩ := ⟨fun _ h => .inl h, rfl, fun _ _ => rfl, Nat.le_refl _, rfl, rfl, rfl⟩
  have hF' : ∀ b ∈ f, (⟨fun b => c.F b ∨ b ∈ f, c.U, c.w⟩ : Ctx).F b := fun b hb => .inr hb
  cases hall with
  | cons h1 h2 =>
    refine ⟨_, hle, ⟨hf.size, hf.defers, fun t p hp => ?_⟩, gs, h2.keep hle.v fun _ _ => rfl, hndB.2.1, ?_, ?_, ?_⟩
    · simp only [Slots.get] at hp
      cases hb : Nat.beq d t with
      | true =>
        rw [hb] at hp; cases hp
        have e := hf.slot t (vlit v) (by simp [Slots.get, hb])
        rw [show a.tmps.getD t undef = v from e]
        exact hq _ hle (h.mono hle.v (fun _ _ => rfl) hh) hF'
      | false =>
        rw [hb] at hp
        exact p.mono hle.v (hf.slot t p (by simp [Slots.get, hb]; exact hp))
    · intro b hb
      refine ⟨?_, (hown b (.inr hb)).2⟩
      rintro (h | h)
      · exact (hown b (.inr hb)).1 h
      · exact hndB.2.2 b h b hb rfl
    · rintro b ((h | h) | h)
      · exact hfro b (.inl h)
      · exact (hown b (.inl h)).2.2
      · exact hfro b (.inr h)
    · rintro b (h | h)
      · exact hdis b h
      · exact (hown b (.inl h)).2.1
theorem Ent.frzOne {φ : Slots} {S : List HP} {d : Nat} {v : Value} {h : HP} {q : VP} (hq : ∀ c f, h.p c f → (∀ b ∈ f, c.F b) → q.p c v) : Ent ((d, vlit v) :: φ) (h :: S) ((d, q) :: φ) S := fun c n a hf ⟨fs, hs⟩ => by
  obtain ⟨f, gs, rfl, hh⟩ := hs.head
  exact frzAt hf hs hh fun F' _ h1 h2 => hq _ f h1 h2
section
variable {P : Program} {n : Nat} {ops : Array Oper} {l : List Oper} {K : Slots → List HP → Prop} {φ : Slots} {S : List HP} {id m : Nat} {W : Nat → Bool} {listed : Array Bool} {d : Nat}
theorem harr_frz {b k len cap : Nat} [Pos k] {α : Type} {r : α → List VP} {xs : List α} (hl : len = xs.length) {c : Ctx} {f : List Nat} (hp : (harr b k r xs (cap * k)).p c f) (hF : ∀ b ∈ f, c.F b) : (vsl k r xs).p c (.slice (some ⟨b, 0, none⟩) len cap) := by
  obtain ⟨rfl, ⟨_, _, _, _, hfit⟩, hE⟩ := hp
  exact ⟨_, len, cap, rfl, hl, .inr ⟨b, 0, rfl, hF b (by simp), cap_of hfit, hE⟩⟩
theorem RL.frzA {b k len cap : Nat} [Pos k] {α : Type} {r : α → List VP} {xs : List α} (hl : len = xs.length) (h : RL P n ops l K ((d, vsl k r xs) :: φ) S) : RL P n ops l K ((d, vsb b len cap) :: φ) (harr b k r xs (cap * k) :: S) :=
  RL.weaken (Ent.frzOne fun c f hp hF => harr_frz hl hp hF) h
theorem RD.frzA {b k len cap : Nat} [Pos k] {α : Type} {r : α → List VP} {xs : List α} (hl : len = xs.length) (h : RD P n id ops W K m listed ((d, vsl k r xs) :: φ) S) : RD P n id ops W K m listed ((d, vsb b len cap) :: φ) (harr b k r xs (cap * k) :: S) :=
  RD.weaken (Ent.frzOne fun c f hp hF => harr_frz hl hp hF) h
end

/-! ### rows told by their slice values -/
def tSv : TR Sv := tVal vsv (fun _ => rfl)
instance : NFT tSv := ⟨fun _ _ _ _ _ _ _ _ h => h⟩
instance : Frz tSv (fun s : Sv => [vlit (vsv s)]) := ⟨fun c x vs f h _ => by rw [h.1]; exact .cons rfl .nil⟩
section
variable {P : Program} {n : Nat} {ops : Array Oper} {o : Oper} {l : List Oper} {K : Slots → List HP → Prop} {φ : Slots} {S : List HP} {id m : Nat} {W : Nat → Bool} {listed : Array Bool} {d : Nat}
end
section
variable {P : Program} {n : Nat} {ops : Array Oper} {l : List Oper} {K : Slots → List HP → Prop} {φ : Slots} {S : List HP} {id m : Nat} {W : Nat → Bool} {listed : Array Bool} {d : Nat}
end
section
variable {P : Program} {n : Nat} {φ : Slots} {S : List HP} {d : Option Tmp} {ty : TypeId} {ps : String} {af : Array Edge} {g : Option (Nat × Bool)}
theorem VOp.loadHS {t : Nat} {x : Operand} {v : Value} {xs : List Sv} {i : Nat} {k' : Nat} [ht : IsVar P t false k'] (hx : opd φ x = some (vep v 1 i 0)) (hh : Has S (hsl tSv v xs))
    (hi : i < xs.length) : VOp P n φ S ⟨d, .load t x, ty, ps, af, g⟩ (vlit (vsv (xs[i]'hi))) := VOp.loadH (rv := vsv) (h1 := fun _ => rfl) hx hh hi
theorem UOp.storeHS {t : TypeId} {x y : Operand} {gg : Bool} {v : Value} {xs : List Sv} {i : Nat} {z : Sv} {C : HP → List HP} [ht : IsVar P t gg 1]
    (hx : opd φ x = some (vep v 1 i 0)) (hy : opd φ y = some (vlit (vsv z))) (u' : Plc S (hsl tSv v xs) C) (hi : i < xs.length) : UOp P n φ S ⟨d, .store t x y, ty, ps, af, g⟩ (fun S'' => S'' = C (hsl tSv v (xs.set i z))) :=
  UOp.storeH (rv := vsv) hx hy u' hi
/-- append of one known slice value -/
theorem EOp.appSv {t t2 e e2 k2 by' : Nat} {z : Value} [ht : IsSlM P t e 1 by' z] [h2 : IsSl P t2 e2 k2] {x y : Operand} {v : Value} {xs : List Sv} {w : Sv} {b2 m2 sz2 : Nat} {S1 : List HP}
    (hx : opd φ x = some (vlit v)) (hy : opd φ y = some (vsb b2 1 m2)) (hp : Pick S [harr b2 1 (List.map vlit) [[vsv w]] sz2, hsl tSv v xs] S1)
    (hbound : (xs.length + 1) * by' ≤ 140737488355328) (h63 : xs.length + 1 ≤ 140737488355328) :
    EOp P n φ S ⟨d, .call ⟨.builtin .append, #[x, y], #[t, t2]⟩, ty, ps, af, g⟩ (fun q S' => ∃ s : Sv, q = vlit (vsv s) ∧ S' = hsl tSv (vsv s) (xs ++ [w]) :: S1) := by
  refine eopWeaken ((SEnt.pick hp).trans (SEnt.val vsv (fun _ => rfl) w _)) ?_
  refine ⟨fun c a hf ⟨fs0, hs0⟩ => ?_⟩
  have h1 : EOp P n φ (hel tSv w [vsv w] :: harr b2 1 (List.map vlit) [[vsv w]] sz2 :: hsl tSv v xs :: S1) ⟨d, .call ⟨.builtin .append, #[x, y], #[t, t2]⟩, ty, ps, af, g⟩ _ :=
    EOp.appH (tr := tSv) hx hy (.tail .head) (.cons .head (.cons (.tail .head) .nil)) rfl hbound h63
  obtain ⟨u, w', F', r, S', he, hle, hr, ⟨fs', hs'⟩, v', rfl, rfl⟩ := h1.run c a hf ⟨fs0, hs0⟩
  obtain ⟨f, gs', rfl, hh⟩ := hs'.head
  obtain ⟨ao, cap, rfl⟩ := ownS.shape hh
  obtain ⟨gs2, hg2⟩ := ((SEnt.pick (B := [harr b2 1 (List.map vlit) [[vsv w]] sz2]) (.cons (.tail .head) .nil)).trans SEnt.drop) _ _ hs'
  exact ⟨u, w', F', _, _, he, hle, hr, ⟨gs2, hg2⟩, (ao, (xs ++ [w]).length, cap), rfl, rfl⟩
end
end Go.Proofs.YtemfpennomelaaaDoor

/- Chunks joined into one, with something unknown, with nothing; contracts told in other words; the first elements of an owned slice; a slice that is not empty is not nil. Proved for every program P; conditions: indices in bounds. -/
namespace Go.Proofs.YtemfpennomelaaaDoor
open Go
set_option linter.unusedVariables false
theorem Spec.pre {P : Program} {f : FuncId} {ps : List VP} {S T : List HP} {R : VP → List HP → Prop} (h : SEnt T S) (hv : Spec P f ps S R) : Spec P f ps T R :=
  ⟨fun c vs ha ⟨fs, hs⟩ => hv.run c vs ha (h c fs hs)⟩
/-- what may be said of a result -/
def SImp (S : List HP) (K : List HP → Prop) : Prop := ∀ c fs, SHf c S fs → ∃ T gs, SHf c T gs ∧ K T
theorem SImp.of {S T : List HP} {K : List HP → Prop} (h : SEnt S T) (k : K T) : SImp S K := fun c fs hs => by
  obtain ⟨gs, hg⟩ := h c fs hs
  exact ⟨T, gs, hg, k⟩
theorem SImp.ent {S T : List HP} {K : List HP → Prop} (h : SEnt S T) (k : SImp T K) : SImp S K := fun c fs hs => by
  obtain ⟨gs, hg⟩ := h c fs hs
  exact k c gs hg
theorem Spec.post {P : Program} {f : FuncId} {ps : List VP} {S : List HP} {R R' : VP → List HP → Prop} (hv : Spec P f ps S R) (h : ∀ r S', R r S' → SImp S' (R' r)) : Spec P f ps S R' :=
  ⟨fun c vs ha hs => (hv.run c vs ha hs).mono fun _ _ ⟨v, F', r, S', h1, h2, h3, ⟨fs, h4⟩, h5⟩ => by
    obtain ⟨T, gs, h6, h7⟩ := h r S' h5 _ fs h4
    exact ⟨v, F', r, T, h1, h2, h3, ⟨gs, h6⟩, h7⟩⟩
theorem ownS.some {α : Type} {t : TR α} {c : Ctx} {s : Sv} {xs : List α} {f : List Nat} (h : ownS t c (vsv s) xs f) (hx : xs ≠ []) : s.1.isNone = false := by
  rcases h with ⟨h1, _⟩ | ⟨b, cap, arr, tt, vss, fss, h1, _⟩
  · exact absurd h1 hx
  · injection h1 with h2; rw [h2]; rfl
theorem SImp.some {α : Type} {t : TR α} {s : Sv} {xs : List α} {S : List HP} {K : List HP → Prop} (hx : xs ≠ []) (hk : s.1.isNone = false → SImp (hsl t (vsv s) xs :: S) K) : SImp (hsl t (vsv s) xs :: S) K := fun c fs hs => by
  obtain ⟨f, gs, rfl, h1⟩ := hs.head
  exact hk (ownS.some h1 hx) c _ hs
theorem Run.some {P : Program} {n : Nat} {x : Code} {Q : Post} {φ : Slots} {α : Type} {t : TR α} {s : Sv} {xs : List α} {S : List HP} (hh : Has S (hsl t (vsv s) xs)) (hx : xs ≠ []) (hr : s.1.isNone = false → Run P n x Q φ S) : Run P n x Q φ S :=
  ⟨fun c a hf ⟨fs, hs⟩ => by
    obtain ⟨f, _, hp⟩ := hh.get hs.all
    exact (hr (ownS.some hp hx)).run c a hf ⟨fs, hs⟩⟩
section
variable {P : Program} {n : Nat} {ops : Array Oper} {l : List Oper} {K : Slots → List HP → Prop} {φ : Slots} {S : List HP} {d : Option Tmp} {ty : TypeId} {ps : String} {af : Array Edge} {g : Option (Nat × Bool)}
theorem RL.some {α : Type} {t : TR α} {s : Sv} {xs : List α} (hh : Has S (hsl t (vsv s) xs)) (hx : xs ≠ []) (hr : s.1.isNone = false → RL P n ops l K φ S) : RL P n ops l K φ S :=
  ⟨fun c a k hl hf ⟨fs, hs⟩ => by
    obtain ⟨f, _, hp⟩ := hh.get hs.all
    exact (hr (ownS.some hp hx)).run c a k hl hf ⟨fs, hs⟩⟩
/-- v[:i] of an owned slice -/
theorem VOp.sliceH {t e k : Nat} [ht : IsSl P t e k] {α : Type} {tr : TR α} {v : Value} {xs : List α} {x y : Operand} {i : Nat} (hx : opd φ x = some (vlit v)) (hh : Has S (hsl tr v xs)) (hy : opd φ y = some (vint (i : Int)))
    (hi : i ≤ xs.length) : VOp P n φ S ⟨d, .slice t x none (some y) none, ty, ps, af, g⟩ (vlit (cutV v i)) := by
  refine ⟨fun c a hf ⟨fs, hs⟩ => ?_⟩
  have h1 : a.eval x = v := hf.opd hx
  have hy' : a.eval y = .int .i64 (i : Int) := hf.opd hy
  obtain ⟨f, _, hp⟩ := hh.get hs.all
  rcases hp with ⟨rfl, rfl, _⟩ | ⟨b, cap, arr, tt, vss, fss, rfl, _, _, h2, _⟩
  · have h0 : i = 0 := by simpa using hi
    subst h0
    refine ⟨.slice none 0 0, ?_, rfl⟩
    intro w' hw'
    simp [execOp, h1, hy', Instr.sliceAt, Instr.slice, Instr.sliceBounds, Instr.sliceBound, asIntOf, run_underlying ht.u, ht.s]
  · have h3 : i ≤ cap := by omega
    refine ⟨.slice (some ⟨b, 0, none⟩) i cap, ?_, rfl⟩
    intro w' hw'
    simp [execOp, h1, hy', Instr.sliceAt, Instr.slice, Instr.sliceBounds, Instr.sliceBound, asIntOf, run_underlying ht.u, ht.s, h3, add_zero_addr]
theorem VOp.sliceHZ {t e k : Nat} [ht : IsSl P t e k] {α : Type} {tr : TR α} {v : Value} {xs : List α} {x y : Operand} {z : Int} (hx : opd φ x = some (vlit v)) (hh : Has S (hsl tr v xs)) (hy : opd φ y = some (vint z))
    (h0 : 0 ≤ z) (hi : z.toNat ≤ xs.length) : VOp P n φ S ⟨d, .slice t x none (some y) none, ty, ps, af, g⟩ (vlit (cutV v z.toNat)) := by
  have e : z = ((z.toNat : Nat) : Int) := by omega
  exact VOp.sliceH hx hh (by rw [e] at hy; exact hy) hi
end
theorem Rows.cut {c : Ctx} {α : Type} {t : TR α} {xs : List α} {vss : List (List Value)} {fss : List (List Nat)} (h : Rows c t xs vss fss) : ∀ (i : Nat), i ≤ xs.length →
    ∃ v1 v2 f1 f2, vss = v1 ++ v2 ∧ fss = f1 ++ f2 ∧ Rows c t (xs.take i) v1 f1 ∧ True := by
  induction h with
  | nil => intro i hi; exact ⟨[], [], [], [], rfl, rfl, by simpa using Rows.nil, trivial⟩
  | @cons x vs f xs vss fss hp hr ih =>
    intro i hi
    cases i with
    | zero => exact ⟨[], _, [], _, rfl, rfl, .nil, trivial⟩
    | succ i =>
      obtain ⟨v1, v2, f1, f2, rfl, rfl, h1, _⟩ := ih i (by simpa using hi)
      exact ⟨vs :: v1, v2, f :: f1, f2, rfl, rfl, .cons hp h1, trivial⟩
end Go.Proofs.YtemfpennomelaaaDoor

/- Slices that are frozen for good, with their capacity known: parts of these. Proved for every program P; conditions: indices in bounds. -/
namespace Go.Proofs.YtemfpennomelaaaDoor
open Go
set_option linter.unusedVariables false
/-- knowledge that lasts: this slice value, of enough capacity, reads as xs -/
def hfz {α : Type} (k : Nat) (r : α → List VP) (s : Sv) (xs : List α) : HP :=
  ⟨fun c fs => fs = [] ∧ s.2.1 = xs.length ∧ xs.length ≤ s.2.2 ∧ (vsl k r xs).p c (vsv s), fun {_ _ _} hl _ h => ⟨h.1, h.2.1, h.2.2.1, (vsl k r xs).mono hl h.2.2.2⟩⟩
theorem vsl_take {k : Nat} {α : Type} {r : α → List VP} {xs : List α} {c : Ctx} {ao : Option Addr} {len cap : Nat} {i m : Nat} (h : (vsl k r xs).p c (.slice ao len cap)) (hi : i ≤ xs.length) (hm : i ≤ m) : (vsl k r (xs.take i)).p c (.slice ao i m) := by
  obtain ⟨ao2, len2, cap2, e, hl, h2⟩ := h
  injection e with e1 e2 e3
  subst e1
  refine ⟨ao, i, m, rfl, by simp; omega, ?_⟩
  rcases h2 with rfl | ⟨b, o, rfl, h3, hcp, h4⟩
  · exact .inl (by simp)
  · exact .inr ⟨b, o, rfl, h3, by simp; omega, fun j x hx => h4 j x (by rw [List.getElem?_take] at hx; split at hx <;> simp_all)⟩
theorem vsl_drop {k : Nat} {α : Type} {r : α → List VP} {xs : List α} {c : Ctx} {ao : Option Addr} {len cap : Nat} {i m : Nat} (h : (vsl k r xs).p c (.slice ao len cap)) (hi : i ≤ xs.length) (hm : xs.length - i ≤ m) {ao2 : Option Addr} (ha : i < xs.length → ao2 = ao.map (·.add (i * k))) : (vsl k r (xs.drop i)).p c (.slice ao2 (xs.length - i) m) := by
  obtain ⟨ao3, len2, cap2, e, hl, h2⟩ := h
  injection e with e1 e2 e3
  subst e1
  refine ⟨ao2, xs.length - i, m, rfl, by simp, ?_⟩
  rcases h2 with rfl | ⟨b, o, rfl, h3, hcp, h4⟩
  · exact .inl (by simp)
  · rcases Nat.lt_or_eq_of_le hi with h5 | h5
    · have e := ha h5
      refine .inr ⟨b, o + i * k, by rw [e]; simp [add_zero_addr], h3, by simp; omega, fun j x hx => ?_⟩
      obtain ⟨h6, h7⟩ := h4 (i + j) x (by rw [List.getElem?_drop] at hx; exact hx)
      refine ⟨h6, ?_⟩
      rw [Nat.add_assoc, ← Nat.add_mul]
      exact h7
    · exact .inl (by rw [List.drop_eq_nil_iff]; omega)
section
variable {P : Program} {n : Nat} {ops : Array Oper} {l : List Oper} {K : Slots → List HP → Prop} {φ : Slots} {S : List HP} {d : Option Tmp} {ty : TypeId} {ps : String} {af : Array Edge} {g : Option (Nat × Bool)}
/-- an operation that yields a value and looks at no memory -/
structure VOpQ (P : Program) (n : Nat) (φ : Slots) (S : List HP) (o : Oper) (r : VP) : Prop where
  run : ∀ c a, FH c n φ a → SH c S → ∃ v, (∀ w', (execOp a.eval o).run P w' = .ok (.value v) w') ∧ r.p c v
theorem VOpQ.v {o : Oper} {r : VP} (h : VOpQ P n φ S o r) : VOp P n φ S o r := ⟨fun c a hf hs => by
  obtain ⟨v, h1, h2⟩ := h.run c a hf hs
  exact ⟨v, fun w' _ => h1 w', h2⟩⟩
/-- v[:i] of a frozen slice -/
theorem VOpQ.sliceFzHi {t e k : Nat} [ht : IsSl P t e k] {α : Type} {k' : Nat} {r : α → List VP} {s : Sv} {xs : List α} {x y : Operand} {i : Nat} (hx : opd φ x = some (vlit (vsv s))) (hh : Has S (hfz k' r s xs)) (hy : opd φ y = some (vint (i : Int)))
    (hi : i ≤ xs.length) : VOpQ P n φ S ⟨d, .slice t x none (some y) none, ty, ps, af, g⟩ (vsl k' r (xs.take i)) := by
  refine ⟨fun c a hf ⟨fs, hs⟩ => ?_⟩
  have h1 : a.eval x = vsv s := hf.opd hx
  have hy' : a.eval y = .int .i64 (i : Int) := hf.opd hy
  obtain ⟨f, _, _, h2, h3, h4⟩ := hh.get hs.all
  obtain ⟨ao, len, cap⟩ := s
  (try dsimp only at h2 h3)
  have h5 : i ≤ cap := by omega
  refine ⟨.slice ao i cap, ?_, vsl_take h4 hi h5⟩
  intro w'
  simp [execOp, h1, hy', Instr.sliceAt, Instr.slice, Instr.sliceBounds, Instr.sliceBound, asIntOf, run_underlying ht.u, ht.s, h5]
  intro h6; cases ao <;> simp [Addr.add]
/-- v[i:] of a frozen slice -/
theorem VOpQ.sliceFzLo {t e k : Nat} [ht : IsSl P t e k] {α : Type} {r : α → List VP} {s : Sv} {xs : List α} {x y : Operand} {i : Nat} (hx : opd φ x = some (vlit (vsv s))) (hh : Has S (hfz k r s xs)) (hy : opd φ y = some (vint (i : Int)))
    (hi : i ≤ xs.length) : VOpQ P n φ S ⟨d, .slice t x (some y) none none, ty, ps, af, g⟩ (vsl k r (xs.drop i)) := by
  refine ⟨fun c a hf ⟨fs, hs⟩ => ?_⟩
  have h1 : a.eval x = vsv s := hf.opd hx
  have hy' : a.eval y = .int .i64 (i : Int) := hf.opd hy
  obtain ⟨f, _, _, h2, h3, h4⟩ := hh.get hs.all
  obtain ⟨ao, len, cap⟩ := s
  (try dsimp only at h2 h3)
  subst h2
  refine ⟨.slice (if cap = i then ao else ao.map (·.add (i * k))) (xs.length - i) (cap - i), ?_, vsl_drop h4 hi (by omega) (fun h5 => by rw [if_neg (by omega)])⟩
  intro w'
  simp [execOp, h1, hy', Instr.sliceAt, Instr.slice, Instr.sliceBounds, Instr.sliceBound, asIntOf, run_underlying ht.u, ht.s, hi]
/-- v[:i] of a frozen slice of which nothing else is known -/
theorem VOpQ.sliceVHi {t e k : Nat} [ht : IsSl P t e k] {α : Type} {k' : Nat} {r : α → List VP} {xs : List α} {x y : Operand} {z : Int} (hx : opd φ x = some (vsl k' r xs)) (hy : opd φ y = some (vint z)) (h0 : 0 ≤ z)
    (hi : z.toNat ≤ xs.length) : VOpQ P n φ S ⟨d, .slice t x none (some y) none, ty, ps, af, g⟩ (vsl k' r (xs.take z.toNat)) := by
  obtain ⟨i, rfl⟩ : ∃ i : Nat, z = i := ⟨z.toNat, by omega⟩
  rw [Int.toNat_natCast] at hi ⊢
  refine ⟨fun c a hf _ => ?_⟩
  have h4 := hf.opd hx
  have h40 := h4
  obtain ⟨ao, len, cap, h1, h2, h3⟩ := h4
  have hy' : a.eval y = .int .i64 (i : Int) := hf.opd hy
  have h5 : i ≤ cap := by
    rcases h3 with rfl | ⟨_, _, _, _, h3, _⟩
    · simp at hi; omega
    · omega
  rw [h1] at h40
  refine ⟨.slice ao i cap, ?_, vsl_take h40 hi h5⟩
  intro w'
  simp [execOp, h1, hy', Instr.sliceAt, Instr.slice, Instr.sliceBounds, Instr.sliceBound, asIntOf, run_underlying ht.u, ht.s, h5]
  intro h6; cases ao <;> simp [Addr.add]
/-- v[i:] of a frozen slice of which nothing else is known -/
theorem VOpQ.sliceVLo {t e k : Nat} [ht : IsSl P t e k] {α : Type} {r : α → List VP} {xs : List α} {x y : Operand} {z : Int} (hx : opd φ x = some (vsl k r xs)) (hy : opd φ y = some (vint z)) (h0 : 0 ≤ z)
    (hi : z.toNat ≤ xs.length) : VOpQ P n φ S ⟨d, .slice t x (some y) none none, ty, ps, af, g⟩ (vsl k r (xs.drop z.toNat)) := by
  obtain ⟨i, rfl⟩ : ∃ i : Nat, z = i := ⟨z.toNat, by omega⟩
  rw [Int.toNat_natCast] at hi ⊢
  refine ⟨fun c a hf _ => ?_⟩
  have h4 := hf.opd hx
  have h40 := h4
  obtain ⟨ao, len, cap, h1, h2, h3⟩ := h4
  have hy' : a.eval y = .int .i64 (i : Int) := hf.opd hy
  rw [h1] at h40
  subst h2
  have h5 : xs.length ≤ cap ∨ xs = [] := by
    rcases h3 with rfl | ⟨_, _, _, _, h3, _⟩
    · exact .inr rfl
    · exact .inl h3
  refine ⟨.slice (if cap = i then ao else ao.map (·.add (i * k))) (xs.length - i) (cap - i), ?_, vsl_drop h40 hi (by rcases h5 with h5 | rfl <;> simp_all <;> omega) (fun h6 => by rw [if_neg (by rcases h5 with h5 | rfl <;> simp_all <;> omega)])⟩
  intro w'
  simp [execOp, h1, hy', Instr.sliceAt, Instr.slice, Instr.sliceBounds, Instr.sliceBound, asIntOf, run_underlying ht.u, ht.s, hi]
theorem VOp.sliceVHi {t e k : Nat} [ht : IsSl P t e k] {α : Type} {k' : Nat} {r : α → List VP} {xs : List α} {x y : Operand} {z : Int} (hx : opd φ x = some (vsl k' r xs)) (hy : opd φ y = some (vint z)) (h0 : 0 ≤ z)
    (hi : z.toNat ≤ xs.length) : VOp P n φ S ⟨d, .slice t x none (some y) none, ty, ps, af, g⟩ (vsl k' r (xs.take z.toNat)) := (VOpQ.sliceVHi hx hy h0 hi).v
theorem VOp.sliceVLo {t e k : Nat} [ht : IsSl P t e k] {α : Type} {r : α → List VP} {xs : List α} {x y : Operand} {z : Int} (hx : opd φ x = some (vsl k r xs)) (hy : opd φ y = some (vint z)) (h0 : 0 ≤ z)
    (hi : z.toNat ≤ xs.length) : VOp P n φ S ⟨d, .slice t x (some y) none none, ty, ps, af, g⟩ (vsl k r (xs.drop z.toNat)) := (VOpQ.sliceVLo hx hy h0 hi).v
theorem VOp.sliceFzHi {t e k : Nat} [ht : IsSl P t e k] {α : Type} {k' : Nat} {r : α → List VP} {s : Sv} {xs : List α} {x y : Operand} {i : Nat} (hx : opd φ x = some (vlit (vsv s))) (hh : Has S (hfz k' r s xs)) (hy : opd φ y = some (vint (i : Int)))
    (hi : i ≤ xs.length) : VOp P n φ S ⟨d, .slice t x none (some y) none, ty, ps, af, g⟩ (vsl k' r (xs.take i)) := (VOpQ.sliceFzHi hx hh hy hi).v
theorem VOp.sliceFzLo {t e k : Nat} [ht : IsSl P t e k] {α : Type} {r : α → List VP} {s : Sv} {xs : List α} {x y : Operand} {i : Nat} (hx : opd φ x = some (vlit (vsv s))) (hh : Has S (hfz k r s xs)) (hy : opd φ y = some (vint (i : Int)))
    (hi : i ≤ xs.length) : VOp P n φ S ⟨d, .slice t x (some y) none none, ty, ps, af, g⟩ (vsl k r (xs.drop i)) := (VOpQ.sliceFzLo hx hh hy hi).v
end
end Go.Proofs.YtemfpennomelaaaDoor

/- Numbers without sign and their halves; the rows of an owned list frozen; one frozen row of an owned list written. Proved for every program P; conditions: numbers that are not negative and below 2^62, indices in bounds. -/
namespace Go.Proofs.YtemfpennomelaaaDoor
open Go
set_option linter.unusedVariables false
class IsU64 (P : Program) (t : TypeId) : Prop where
  u : P.underlying t = some (.int .u64)
section
variable {P : Program} {n : Nat} {φ : Slots} {S : List HP} {d : Option Tmp} {ty : TypeId} {ps : String} {af : Array Edge} {g : Option (Nat × Bool)}
theorem VOp.toU64 {t t2 : TypeId} [hs : IsI64 P t] [ht : IsU64 P t2] {x : Operand} {i : Int} (hx : opd φ x = some (vint i)) (h0 : 0 ≤ i) (hi : i ≤ 4611686018427387904) : VOp P n φ S ⟨d, .convert t t2 x, ty, ps, af, g⟩ (vlit (.int .u64 i)) := by
  refine ⟨fun c a hf hs' => ⟨.int .u64 i, fun w' hw' => ?_, rfl⟩⟩
  have h1 : a.eval x = _ := hf.opd hx
  have e : IntKind.u64.wrap i = i := by simp [IntKind.wrap, IntKind.bits, IntKind.signed]; omega
  simp [execOp, h1, convert, run_underlying hs.u, run_underlying ht.u, Conv.intToInt, e]
theorem VOp.toI64 {t t2 : TypeId} [hs : IsU64 P t] [ht : IsI64 P t2] {x : Operand} {i : Int} (hx : opd φ x = some (vlit (.int .u64 i))) (h0 : 0 ≤ i) (hi : i ≤ 4611686018427387904) : VOp P n φ S ⟨d, .convert t t2 x, ty, ps, af, g⟩ (vint i) := by
  refine ⟨fun c a hf hs' => ⟨.int .i64 i, fun w' hw' => ?_, rfl⟩⟩
  have h1 : a.eval x = _ := hf.opd hx
  have e : IntKind.i64.wrap i = i := by simp [IntKind.wrap, IntKind.bits, IntKind.signed]; omega
  simp [execOp, h1, convert, run_underlying hs.u, run_underlying ht.u, Conv.intToInt, e]
theorem VOp.half {t t' : TypeId} {x y : Operand} {i : Int} (hx : opd φ x = some (vlit (.int .u64 i))) (hy : opd φ y = some (vlit (.int .u64 1))) : VOp P n φ S ⟨d, .binOp .shr t x y t', ty, ps, af, g⟩ (vlit (.int .u64 (i / 2))) := by
  refine ⟨fun c a hf hs => ⟨.int .u64 (i / 2), fun w' hw' => ?_, rfl⟩⟩
  have h1 : a.eval x = _ := hf.opd hx
  have h2 : a.eval y = _ := hf.opd hy
  have e : i.fdiv (2 ^ (min (1 : Int).toNat IntKind.u64.bits)) = i / 2 := Int.fdiv_eq_ediv_of_nonneg i (by decide)
  simp only [execOp, h1, h2, eqGuard, binOp, Op.shift]
  simp [show ¬ ((1 : Int) < 0) by decide]
  exact e
end
/-! ### values that do not look at the world, ahead of operations that write -/
section
variable {P : Program} {n : Nat} {id : Nat} {ops : Array Oper} {W : Nat → Bool} {K : Slots → List HP → Prop} {m : Nat} {listed : Array Bool} {o : Oper} {φ : Slots} {S : List HP}
def YP (P : Program) (ops : Array Oper) (o : Oper) (v : Value) (a : Act) : Prop :=
  Region.wanted o (yielded ops a.tmps) = true ∧ ∀ w', (execOp a.eval o).run P w' = .ok (.value v) w'
theorem YP.op {i : Nat} {v : Value} {a : Act} {w : World} {Q : Exit → Act → World → Prop} {K : Act → World → Prop} (hi : ops[i]? = some o) (hy : YP P ops o v a) (h : K (a.put o.dst v) w) : wpOp P ops Q i K a w := by
  unfold wpOp
  simp only [hi]
  simp only [hy.1, if_true, Oper.wp, hy.2 w, Oper.upon]; exact .inl h
theorem YP.keep {v u : Value} {oi oj : Oper} {a : Act} (hy : YP P ops oi v a) (hsi : ∀ cs b, oi.op ≠ .select cs b) (h3 : ∀ d, oj.dst = some d → d ∉ oi.looksAt ops) : YP P ops oi v (a.put oj.dst u) := by
  unfold YP at *
  rw [execOp_put oi hsi a oj.dst u h3, wanted_put oi a oj.dst u h3]
  exact hy
end
end Go.Proofs.YtemfpennomelaaaDoor

/- Maps from strings to ints, append where there is room, the greater of two numbers. Proved for every program P; conditions: those of the rules. -/
namespace Go.Proofs.YtemfpennomelaaaDoor
open Go
set_option linter.unusedVariables false

class IsMapI (P : Program) (t : TypeId) : Prop where
  u : ∃ k e, P.underlying t = some (.map k e) ∧ P.underlying k = some .string ∧ ∀ w, (zeroValue e).run P w = .ok (.int .i64 0) w
abbrev KV := List (ByteArray × Int)
/-- a map from strings to ints of the call's own: keys in the order in which they came, each once -/
def hmapI (b : Nat) (kv : KV) : HP :=
  ⟨fun c fs => fs = [b] ∧ (kv.map Prod.fst).Nodup ∧ ∃ es clock, c.w.heap[b]? = some (.map es clock) ∧ (∀ e ∈ es.toList, ∃ p ∈ kv, e.key = .string p.1 ∧ e.val = .int .i64 p.2) ∧ (∀ p ∈ kv, ∃ e ∈ es.toList, e.key = .string p.1) ∧ (es.toList.map (·.key)).Nodup,
   fun {_ _ _} _ hk h => by
    obtain ⟨rfl, h0, es, clock, h1, h2, h3, h4⟩ := h
    exact ⟨rfl, h0, es, clock, (hk b (by simp)).trans h1, h2, h3, h4⟩⟩
/-- the value of a key, 0 where there is none -/
def kvGet : KV → ByteArray → Int
  | [], _ => 0
  | p :: kv, k => if p.1 = k then p.2 else kvGet kv k
theorem kvGet_in : ∀ {kv : KV} {p : ByteArray × Int}, (kv.map Prod.fst).Nodup → p ∈ kv → kvGet kv p.1 = p.2
  | [], p, _, h => by cases h
  | q :: kv, p, hn, h => by
    rw [List.map_cons, List.nodup_cons] at hn
    rw [kvGet]
    rcases List.mem_cons.1 h with rfl | h
    · rw [if_pos rfl]
    · rw [if_neg (fun e => hn.1 (by rw [e]; exact List.mem_map.2 ⟨p, h, rfl⟩))]
      exact kvGet_in hn.2 h
theorem kvGet_out : ∀ {kv : KV} {k : ByteArray}, k ∉ kv.map Prod.fst → kvGet kv k = 0
  | [], _, _ => rfl
  | q :: kv, k, h => by
    rw [List.map_cons, List.mem_cons, not_or] at h
    rw [kvGet, if_neg (fun e => h.1 e.symm), kvGet_out h.2]

section
variable {P : Program} {n : Nat} {φ : Slots} {S : List HP} {d : Option Tmp} {ty : TypeId} {ps : String} {af : Array Edge} {g : Option (Nat × Bool)}
theorem EOp.makeMapI {t : TypeId} [ht : IsMapI P t] : EOp P n φ S ⟨d, .makeMap t none, ty, ps, af, g⟩ (fun r S' => ∃ b, r = vmap b ∧ S' = hmapI b [] :: S) := by
  refine ⟨fun c a hf hs => ?_⟩
  obtain ⟨hl, hs'⟩ := hs.new (k := 0) (o := .map #[] 0) (h := hmapI c.w.heap.size []) (fun hl => ⟨rfl, .nil, #[], 0, newW_new, by simp, by simp, .nil⟩)
  exact ⟨.map (some c.w.heap.size), _, c.F, _, _, by simp [execOp, Instr.makeMap]; rfl, hl, rfl, hs', _, rfl, rfl⟩

theorem UOp.mapIAdd {t : TypeId} [ht : IsMapI P t] {x y z : Operand} {b : Nat} {kv : KV} {k : ByteArray} {i : Int} {C : HP → List HP} (hx : opd φ x = some (vmap b)) (hy : opd φ y = some (vstr k)) (hz : opd φ z = some (vint i))
    (u' : Plc S (hmapI b kv) C) (hno : k ∉ kv.map Prod.fst) : UOp P n φ S ⟨d, .mapUpdate t x y z, ty, ps, af, g⟩ (fun S'' => S'' = C (hmapI b (kv ++ [(k, i)]))) := by
  refine ⟨fun c a hf hs => ?_⟩
  have u := u'.upd (hmapI b (kv ++ [(k, i)]))
  have h1 : a.eval x = _ := hf.opd hx
  have h2 : a.eval y = _ := hf.opd hy
  have h3 : a.eval z = _ := hf.opd hz
  obtain ⟨kt, et, hm, hd, _⟩ := ht.u
  have hs0 := hs
  obtain ⟨fs, hsf⟩ := hs
  obtain ⟨f, _, rfl, hnd, es, clock, hb, hin, hall, hun⟩ := u.has.get hsf.all
  have hks : ∀ e ∈ es.toList, MapKept.IsKey .string e.key := fun e he => by obtain ⟨k, _, h, _⟩ := hin e he; rw [h]; trivial
  have hk : MapKept.IsKey .string (.string k) := trivial
  rcases MapKept.findNow_spec hk es.toList 0 hks with ⟨h4, h5⟩ | ⟨j, e, h4, h5, h6⟩
  · obtain ⟨hl, hs'⟩ := hs0.putO u hb (o := .map (es.push { key := .string k, val := .int .i64 i, born := clock }) (clock + 1)) (fun f h => h.1) (fun hnew => by
      refine ⟨rfl, ?_, _, _, hnew, ?_, ?_, ?_⟩
      · rw [List.map_append, List.nodup_append]
        refine ⟨hnd, by simp, fun a ha b hb => ?_⟩
        simp only [List.map_cons, List.map_nil, List.mem_singleton] at hb
        subst hb
        exact fun e => hno (e ▸ ha)
      · intro e he
        simp only [Array.toList_push, List.mem_append, List.mem_singleton] at he
        rcases he with he | rfl
        · obtain ⟨k', hk', h⟩ := hin e he; exact ⟨k', by simp [hk'], h⟩
        · exact ⟨(k, i), by simp, rfl, rfl⟩
      · intro k' hk'
        simp only [List.mem_append, List.mem_singleton] at hk'
        rcases hk' with hk' | rfl
        · obtain ⟨e, he, h⟩ := hall k' hk'; exact ⟨e, by simp [he], h⟩
        · exact ⟨{ key := .string k, val := .int .i64 i, born := clock }, by simp, rfl⟩
      · rw [Array.toList_push, List.map_append, List.nodup_append]
        refine ⟨hun, by simp, fun a ha b hb => ?_⟩
        obtain ⟨e, he, rfl⟩ := List.mem_map.1 ha
        simp only [List.map_cons, List.map_nil, List.mem_singleton] at hb
        subst hb
        exact h5 e he)
    exact ⟨_, c.F, _, by simp [execOp, h1, h2, h3, Instr.mapUpdate, run_underlying hm, MapKept.run_getObj_map hb, MapKept.run_checkKey hd hk, MapKept.run_findKey hd h4, MapKept.run_setObj_map _ hb]; rfl, hl, hs', rfl⟩
  · exfalso
    have hmem : e ∈ es.toList := List.mem_iff_getElem?.2 ⟨j, h5⟩
    obtain ⟨p, hp, h7, _⟩ := hin e hmem
    rw [h6] at h7
    cases h7
    exact hno (List.mem_map.2 ⟨p, hp, rfl⟩)

/-- the value of a key that is there is changed -/
def kvSet (kv : KV) (k : ByteArray) (i : Int) : KV := kv.map fun p => if p.1 = k then (p.1, i) else p
theorem kvSet_keys (kv : KV) (k : ByteArray) (i : Int) : (kvSet kv k i).map Prod.fst = kv.map Prod.fst := by
  rw [kvSet, List.map_map]
  apply List.map_congr_left
  intro p _
  simp only [Function.comp]
  split <;> rfl
theorem UOp.mapISet {t : TypeId} [ht : IsMapI P t] {x y z : Operand} {b : Nat} {kv : KV} {k : ByteArray} {i : Int} {C : HP → List HP} (hx : opd φ x = some (vmap b)) (hy : opd φ y = some (vstr k)) (hz : opd φ z = some (vint i))
    (u' : Plc S (hmapI b kv) C) (hno : k ∈ kv.map Prod.fst) : UOp P n φ S ⟨d, .mapUpdate t x y z, ty, ps, af, g⟩ (fun S'' => S'' = C (hmapI b (kvSet kv k i))) := by
  refine ⟨fun c a hf hs => ?_⟩
  have u := u'.upd (hmapI b (kvSet kv k i))
  have h1 : a.eval x = _ := hf.opd hx
  have h2 : a.eval y = _ := hf.opd hy
  have h3 : a.eval z = _ := hf.opd hz
  obtain ⟨kt, et, hm, hd, _⟩ := ht.u
  have hs0 := hs
  obtain ⟨fs, hsf⟩ := hs
  obtain ⟨f, _, rfl, hnd, es, clock, hb, hin, hall, hun⟩ := u.has.get hsf.all
  have hks : ∀ e ∈ es.toList, MapKept.IsKey .string e.key := fun e he => by obtain ⟨k, _, h, _⟩ := hin e he; rw [h]; trivial
  have hk : MapKept.IsKey .string (.string k) := trivial
  rcases MapKept.findNow_spec hk es.toList 0 hks with ⟨h4, h5⟩ | ⟨j, e, h4, h5, h6⟩
  · exfalso
    obtain ⟨p, hp, rfl⟩ := List.mem_map.1 hno
    obtain ⟨e, he, h⟩ := hall p hp
    exact h5 e he h
  · have hj : es[j]? = some e := by simpa using h5
    have hkey : ∀ e', es[j]? = some e' → ({ e' with key := .string k, val := .int .i64 i } : MapEntry).key = e'.key := fun e' he' => by rw [hj] at he'; cases he'; exact h6.symm
    have hkeys := MapKept.modify_keys (es := es) j _ hkey
    obtain ⟨hl, hs'⟩ := hs0.putO u hb (o := .map (es.modify j fun e => { e with key := .string k, val := .int .i64 i }) clock) (fun f h => h.1) (fun hnew => by
      refine ⟨rfl, by rw [kvSet_keys]; exact hnd, _, _, hnew, ?_, ?_, by rw [hkeys]; exact hun⟩
      · intro e' he'
        rw [List.mem_iff_getElem?] at he'
        obtain ⟨m, hi⟩ := he'
        simp only [Array.getElem?_toList, Array.getElem?_modify] at hi
        by_cases hij : j = m
        · subst hij
          rw [if_pos rfl, hj] at hi
          simp only [Option.map_some, Option.some.injEq] at hi
          subst hi
          obtain ⟨p, hp, hpk⟩ := List.mem_map.1 hno
          exact ⟨(k, i), List.mem_map.2 ⟨p, hp, by rw [if_pos hpk, hpk]⟩, rfl, rfl⟩
        · rw [if_neg hij] at hi
          have hm' : e' ∈ es.toList := List.mem_iff_getElem?.2 ⟨m, by simpa using hi⟩
          obtain ⟨p, hp, h7, h8⟩ := hin e' hm'
          have hne : ¬ p.1 = k := fun e2 => by
            have h9 : (es.toList.map (·.key))[j]? = some (Value.string k) := by rw [List.getElem?_map, h5]; simp [h6]
            have h10 : (es.toList.map (·.key))[m]? = some (Value.string k) := by rw [List.getElem?_map, show es.toList[m]? = some e' by simpa using hi]; simp [h7, e2]
            exact hij ((List.getElem?_inj (by have := (List.getElem?_eq_some_iff.1 h9).1; exact this) hun).1 (h9.trans h10.symm))
          exact ⟨p, List.mem_map.2 ⟨p, hp, if_neg hne⟩, h7, h8⟩
      · have h7 : ∀ k', (∃ e ∈ es.toList, e.key = .string k') → ∃ e ∈ (es.modify j fun e => { e with key := Value.string k, val := Value.int .i64 i }).toList, e.key = .string k' := fun k' ⟨e', he', h'⟩ => by
          have : Value.string k' ∈ es.toList.map (·.key) := List.mem_map.2 ⟨e', he', h'⟩
          rw [← hkeys] at this
          obtain ⟨y, hy, e⟩ := List.mem_map.1 this
          exact ⟨y, hy, e⟩
        intro p hp
        obtain ⟨q, hq, rfl⟩ := List.mem_map.1 hp
        have := h7 q.1 (hall q hq)
        split <;> exact this)
    exact ⟨_, c.F, _, by simp [execOp, h1, h2, h3, Instr.mapUpdate, run_underlying hm, MapKept.run_getObj_map hb, MapKept.run_checkKey hd hk, MapKept.run_findKey hd h4, hj, h6, MapKept.run_keyThatStays hk, MapKept.run_setObj_map _ hb]; rfl, hl, hs', rfl⟩

theorem mapI_find {c : Ctx} {kt : TypeId} {b : Nat} {kv : KV} {f : List Nat} (hd : P.underlying kt = some .string) (h : (hmapI b kv).p c f) (k : ByteArray) : ∃ es clock, c.w.heap[b]? = some (.map es clock) ∧
    ((k ∈ kv.map Prod.fst ∧ ∃ j, Instr.findNow .string (.string k) es.toList 0 = some (some (j, .int .i64 (kvGet kv k)))) ∨ k ∉ kv.map Prod.fst ∧ kvGet kv k = 0 ∧ Instr.findNow .string (.string k) es.toList 0 = some none) := by
  obtain ⟨_, hnd, es, clock, hb, hin, hall, _⟩ := h
  have hks : ∀ e ∈ es.toList, MapKept.IsKey .string e.key := fun e he => by obtain ⟨k, _, h, _⟩ := hin e he; rw [h]; trivial
  have hk : MapKept.IsKey .string (.string k) := trivial
  refine ⟨es, clock, hb, ?_⟩
  rcases MapKept.findNow_spec hk es.toList 0 hks with ⟨h4, h5⟩ | ⟨j, e, h4, h5, h6⟩
  · have hno : k ∉ kv.map Prod.fst := fun h => by
      obtain ⟨p, hp, rfl⟩ := List.mem_map.1 h
      obtain ⟨e, he, h'⟩ := hall p hp; exact h5 e he h'
    exact .inr ⟨hno, kvGet_out hno, h4⟩
  · have hmem : e ∈ es.toList := List.mem_iff_getElem?.2 ⟨j, h5⟩
    obtain ⟨p, hp, h7, h8⟩ := hin e hmem
    rw [h6] at h7
    cases h7
    rw [h8] at h4
    rw [kvGet_in hnd hp]
    exact .inl ⟨List.mem_map.2 ⟨p, hp, rfl⟩, _, h4⟩
/-- v, ok := m[k] -/
theorem VOp.mapIHas {t : TypeId} [ht : IsMapI P t] {x y : Operand} {b : Nat} {kv : KV} {k : ByteArray} (hx : opd φ x = some (vmap b)) (hy : opd φ y = some (vstr k)) (hh : Has S (hmapI b kv)) :
    VOp P n φ S ⟨d, .lookup t x y true, ty, ps, af, g⟩ (vtup [vint (kvGet kv k), vbool (decide (k ∈ kv.map Prod.fst))]) := by
  refine ⟨fun c a hf ⟨fs, hs⟩ => ?_⟩
  have h1 : a.eval x = _ := hf.opd hx
  have h2 : a.eval y = _ := hf.opd hy
  obtain ⟨kt, et, hm, hd, hz⟩ := ht.u
  obtain ⟨f, _, hp⟩ := hh.get hs.all
  have hk : MapKept.IsKey .string (.string k) := trivial
  obtain ⟨es, clock, hb, h3⟩ := mapI_find (P := P) hd hp k
  have hlt : b < c.w.heap.size := (Array.getElem?_eq_some_iff.1 hb).1
  refine ⟨.tuple #[.int .i64 (kvGet kv k), .bool (decide (k ∈ kv.map Prod.fst))], fun w' hw' => ?_, _, rfl, .cons rfl (.cons rfl .nil)⟩
  have hb' : w'.heap[b]? = some (.map es clock) := (hw'.heap b hlt).trans hb
  rcases h3 with ⟨h3, j, h4⟩ | ⟨h3, h5, h4⟩
  · simp [execOp, h1, h2, Instr.lookup, run_underlying hm, MapKept.run_getObj_map hb', MapKept.run_checkKey hd hk, MapKept.run_findKey hd h4, decide_eq_true h3]
  · simp [execOp, h1, h2, Instr.lookup, run_underlying hm, MapKept.run_getObj_map hb', MapKept.run_checkKey hd hk, MapKept.run_findKey hd h4, hz, decide_eq_false h3, h5]
/-- m[k] -/
theorem VOp.mapIGet {t : TypeId} [ht : IsMapI P t] {x y : Operand} {b : Nat} {kv : KV} {k : ByteArray} (hx : opd φ x = some (vmap b)) (hy : opd φ y = some (vstr k)) (hh : Has S (hmapI b kv)) :
    VOp P n φ S ⟨d, .lookup t x y false, ty, ps, af, g⟩ (vint (kvGet kv k)) := by
  refine ⟨fun c a hf ⟨fs, hs⟩ => ?_⟩
  have h1 : a.eval x = _ := hf.opd hx
  have h2 : a.eval y = _ := hf.opd hy
  obtain ⟨kt, et, hm, hd, hz⟩ := ht.u
  obtain ⟨f, _, hp⟩ := hh.get hs.all
  have hk : MapKept.IsKey .string (.string k) := trivial
  obtain ⟨es, clock, hb, h3⟩ := mapI_find (P := P) hd hp k
  have hlt : b < c.w.heap.size := (Array.getElem?_eq_some_iff.1 hb).1
  refine ⟨.int .i64 (kvGet kv k), fun w' hw' => ?_, rfl⟩
  have hb' : w'.heap[b]? = some (.map es clock) := (hw'.heap b hlt).trans hb
  rcases h3 with ⟨h3, j, h4⟩ | ⟨h3, h5, h4⟩
  · simp [execOp, h1, h2, Instr.lookup, run_underlying hm, MapKept.run_getObj_map hb', MapKept.run_checkKey hd hk, MapKept.run_findKey hd h4]
  · simp [execOp, h1, h2, Instr.lookup, run_underlying hm, MapKept.run_getObj_map hb', MapKept.run_checkKey hd hk, MapKept.run_findKey hd h4, hz, h5]
/-- max(x, y) -/
theorem VOp.max2 {ats : Array TypeId} {x y : Operand} {i j : Int} (hx : opd φ x = some (vint i)) (hy : opd φ y = some (vint j)) :
    VOp P n φ S ⟨d, .call ⟨.builtin .max, #[x, y], ats⟩, ty, ps, af, g⟩ (vint (max i j)) := by
  refine ⟨fun c a hf hs => ⟨.int .i64 (max i j), fun w' hw' => ?_, rfl⟩⟩
  have h1 : a.eval x = _ := hf.opd hx
  have h2 : a.eval y = _ := hf.opd hy
  have e : (if j > i then j else i) = max i j := by split <;> omega
  simp [execOp, resolve, invoke, builtin, Builtin.max_, Builtin.max2, h1, h2, e]
end
/-! ### knowledge of a value; a list that a cell names is frozen -/
/-- cells of which those that hold a value get what is known of it -/
inductive CellUp (v : Value) (q : VP) : List VP → List VP → Prop
  | nil : CellUp v q [] []
  | hit {ps qs : List VP} : CellUp v q ps qs → CellUp v q (vlit v :: ps) (q :: qs)
  | keep {p : VP} {ps qs : List VP} : CellUp v q ps qs → CellUp v q (p :: ps) (p :: qs)
theorem CellUp.len {v : Value} {q : VP} {ps qs : List VP} (h : CellUp v q ps qs) : qs.length = ps.length := by
  induction h with
  | nil => rfl
  | hit _ ih => simp [ih]
  | keep _ ih => simp [ih]
theorem CellUp.at {v : Value} {q : VP} {ps qs : List VP} (h : CellUp v q ps qs) {c : Ctx} (hq : q.p c v) : ∀ (j : Nat) (p : VP), qs[j]? = some p → ∃ p0, ps[j]? = some p0 ∧ ∀ u, p0.p c u → p.p c u := by
  induction h with
  | nil => intro j p hp; simp at hp
  | hit _ ih =>
    intro j p hp
    cases j with
    | zero => simp at hp; subst hp; exact ⟨vlit v, rfl, fun u hu => by cases hu; exact hq⟩
    | succ j => exact ih j p (by simpa using hp)
  | keep _ ih =>
    intro j p hp
    cases j with
    | zero => simp at hp; subst hp; exact ⟨_, rfl, fun _ h => h⟩
    | succ j => exact ih j p (by simpa using hp)
section
variable {P : Program} {n : Nat} {φ : Slots} {S : List HP} {d : Option Tmp} {ty : TypeId} {ps : String} {af : Array Edge} {g : Option (Nat × Bool)}
/-! ### words of 64 bits without a sign -/
theorem VOp.u8I64 {t t2 : TypeId} [hs : IsU8 P t] [ht : IsI64 P t2] {x : Operand} {i : Int} (hx : opd φ x = some (vu8 i)) (h : 0 ≤ i ∧ i ≤ 255) : VOp P n φ S ⟨d, .convert t t2 x, ty, ps, af, g⟩ (vint i) := by
  refine ⟨fun c a hf hs' => ⟨.int .i64 i, fun w' hw' => ?_, rfl⟩⟩
  have h1 : a.eval x = _ := hf.opd hx
  have e : IntKind.i64.wrap i = i := by simp [IntKind.wrap, IntKind.bits, IntKind.signed]; omega
  simp [execOp, h1, convert, run_underlying hs.u, run_underlying ht.u, Conv.intToInt, e]
theorem VOp.mulU {t t' : TypeId} {x y : Operand} {i j : Int} (hx : opd φ x = some (vlit (.int .u64 i))) (hy : opd φ y = some (vlit (.int .u64 j))) : VOp P n φ S ⟨d, .binOp .mul t x y t', ty, ps, af, g⟩ (vlit (.int .u64 ((i * j) % 18446744073709551616))) := by
  refine ⟨fun c a hf hs => ⟨.int .u64 ((i * j) % 18446744073709551616), fun w' hw' => ?_, rfl⟩⟩
  have h1 : a.eval x = _ := hf.opd hx
  have h2 : a.eval y = _ := hf.opd hy
  have e : IntKind.u64.wrap (i * j) = (i * j) % 18446744073709551616 := by simp [IntKind.wrap, IntKind.bits, IntKind.signed]
  simp [execOp, h1, h2, binOp, eqGuard, Op.intArith, e]
theorem VOp.addU {t t' : TypeId} {x y : Operand} {i j : Int} (hx : opd φ x = some (vlit (.int .u64 i))) (hy : opd φ y = some (vlit (.int .u64 j))) : VOp P n φ S ⟨d, .binOp .add t x y t', ty, ps, af, g⟩ (vlit (.int .u64 ((i + j) % 18446744073709551616))) := by
  refine ⟨fun c a hf hs => ⟨.int .u64 ((i + j) % 18446744073709551616), fun w' hw' => ?_, rfl⟩⟩
  have h1 : a.eval x = _ := hf.opd hx
  have h2 : a.eval y = _ := hf.opd hy
  have e : IntKind.u64.wrap (i + j) = (i + j) % 18446744073709551616 := by simp [IntKind.wrap, IntKind.bits, IntKind.signed]
  simp [execOp, h1, h2, binOp, eqGuard, Op.intArith, e]
theorem VOp.shr40 {t t' : TypeId} {x y : Operand} {i : Int} (hx : opd φ x = some (vlit (.int .u64 i))) (hy : opd φ y = some (vlit (.int .u64 40))) : VOp P n φ S ⟨d, .binOp .shr t x y t', ty, ps, af, g⟩ (vlit (.int .u64 (i / 1099511627776))) := by
  refine ⟨fun c a hf hs => ⟨.int .u64 (i / 1099511627776), fun w' hw' => ?_, rfl⟩⟩
  have h1 : a.eval x = _ := hf.opd hx
  have h2 : a.eval y = _ := hf.opd hy
  have e : i.fdiv (2 ^ (min (40 : Int).toNat IntKind.u64.bits)) = i / 1099511627776 := Int.fdiv_eq_ediv_of_nonneg i (by decide)
  simp only [execOp, h1, h2, eqGuard, binOp, Op.shift]
  simp [show ¬ ((40 : Int) < 0) by decide]
  exact e
theorem VOp.and255 {t t' : TypeId} {x y : Operand} {i : Int} (hx : opd φ x = some (vlit (.int .u64 i))) (hy : opd φ y = some (vlit (.int .u64 255))) : VOp P n φ S ⟨d, .binOp .and t x y t', ty, ps, af, g⟩ (vlit (.int .u64 (i % 256))) := by
  refine ⟨fun c a hf hs => ⟨.int .u64 (i % 256), fun w' hw' => ?_, rfl⟩⟩
  have h1 : a.eval x = _ := hf.opd hx
  have h2 : a.eval y = _ := hf.opd hy
  have h3 : ((BitVec.ofInt 64 i &&& BitVec.ofInt 64 255).toNat : Int) = i % 256 := by
    have h4 : (BitVec.ofInt 64 255).toNat = 2 ^ 8 - 1 := by decide
    rw [BitVec.toNat_and, h4, Nat.and_two_pow_sub_one_eq_mod, BitVec.toNat_ofInt]
    have : (0 : Int) ≤ i % 18446744073709551616 := Int.emod_nonneg _ (by decide)
    omega
  have e : IntKind.u64.wrap (i % 256) = i % 256 := by simp [IntKind.wrap, IntKind.bits, IntKind.signed]; omega
  simp only [execOp, h1, h2, eqGuard, binOp, Op.intBits]
  have h5 : IntKind.u64.wrap ((BitVec.ofInt IntKind.u64.bits i &&& BitVec.ofInt IntKind.u64.bits 255).toNat : Int) = i % 256 := by
    have h6 : ((BitVec.ofInt IntKind.u64.bits i &&& BitVec.ofInt IntKind.u64.bits 255).toNat : Int) = i % 256 := h3
    rw [h6, e]
  rw [h5]
  simp
end
section
variable {P : Program} {n id : Nat} {ops : Array Oper} {W : Nat → Bool} {K : Slots → List HP → Prop} {m : Nat} {listed : Array Bool} {φ : Slots} {S : List HP}
/-! ### sums and the like ahead of operations that write -/
end
end Go.Proofs.YtemfpennomelaaaDoor
