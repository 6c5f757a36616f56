/- Sets of strings (maps from strings to bools), bytes, strings of bytes. Proved for every program P; conditions: those of the rules. -/
import Derived.Test.YtodlpdedldhebaaCoreR
import Derived.MapKept
import Derived.Laws.BytesArg
namespace Go.Proofs.Ytodlpdedldhebaa
open Go
set_option linter.unusedVariables false

@[reducible] def vu8 (n : Int) : VP := vlit (.int .u8 n)
@[reducible] def vstr (s : ByteArray) : VP := vlit (.string s)
@[reducible] def vmap (b : Nat) : VP := vlit (.map (some b))
class IsU8 (P : Program) (t : TypeId) : Prop where
  u : P.underlying t = some (.int .u8)
class IsI64 (P : Program) (t : TypeId) : Prop where
  u : P.underlying t = some (.int .i64)
class IsSet (P : Program) (t : TypeId) : Prop where
  u : ∃ k e, P.underlying t = some (.map k e) ∧ P.underlying k = some .string ∧ ∀ w, (zeroValue e).run P w = .ok (.bool false) w

instance : ReflBEq ByteArray := ⟨fun {a} => (MapKept.bytes_beq a a).2 rfl⟩
instance : LawfulBEq ByteArray := ⟨fun {a b} h => (MapKept.bytes_beq a b).1 h⟩
/-- a set of strings of the call's own -/
def hset (b : Nat) (ks : List ByteArray) : HP :=
  ⟨fun c fs => fs = [b] ∧ ∃ es clock, c.w.heap[b]? = some (.map es clock) ∧ (∀ e ∈ es.toList, ∃ k ∈ ks, e.key = .string k ∧ e.val = .bool true) ∧ ∀ k ∈ ks, ∃ e ∈ es.toList, e.key = .string k,
   fun {_ _ _} _ hk h => by
    obtain ⟨rfl, es, clock, h1, h2, h3⟩ := h
    exact ⟨rfl, es, clock, (hk b (by simp)).trans h1, h2, h3⟩⟩

/-! ### an object of the heap is replaced -/
def setO (w : World) (b : Nat) (o : Obj) : World := { w with heap := w.heap.setIfInBounds b o }
theorem setO_other {w : World} {b : Nat} {o : Obj} {k : Nat} (h : k ≠ b) : (setO w b o).heap[k]? = w.heap[k]? := by
  simp only [setO, Array.getElem?_setIfInBounds_ne (Ne.symm h)]
theorem setO_at {w : World} {b : Nat} {o : Obj} (h : b < w.heap.size) : (setO w b o).heap[b]? = some o := by
  simp [setO, h]
theorem setO_size {w : World} {b : Nat} {o : Obj} : (setO w b o).heap.size = w.heap.size := by simp [setO]
theorem SH.putO {c : Ctx} {S S' : List HP} {h h' : HP} {b : Nat} {o0 o : Obj} (hs : SH c S) (u : Upd S h h' S') (hb : c.w.heap[b]? = some o0)
    (hf : ∀ f, h.p c f → f = [b]) (hp : (setO c.w b o).heap[b]? = some o → h'.p ⟨c.F, c.U, setO c.w b o⟩ [b]) : c.le ⟨c.F, c.U, setO c.w b o⟩ ∧ SH ⟨c.F, c.U, setO c.w b o⟩ S' := by
  obtain ⟨fs, hs⟩ := hs
  obtain ⟨A, B, rfl, rfl⟩ := u.split
  obtain ⟨f1, f, f2, rfl, h1, h2, h3⟩ := hs.middle
  obtain rfl := hf f h2
  have hlt : b < c.w.heap.size := (Array.getElem?_eq_some_iff.1 hb).1
  have hnF := hs.own b (by simp)
  have hl : c.le ⟨c.F, c.U, setO c.w b o⟩ := ⟨fun _ h => h, rfl, fun k hk => setO_other (fun e => hk.elim (fun h => hnF.1 (e ▸ h)) (fun h => hnF.2.1 (e ▸ h))), by simp [setO_size], rfl, rfl, rfl⟩
  exact ⟨hl, _, hs.replace hl h1 h3 (fun _ => .rfl) (fun k _ hk => setO_other (by simpa using hk)) (by simp [setO_size, hlt]) (by simp) (hp (setO_at hlt))⟩

/-! ### the paths through a piece of code meet again -/
theorem Run.mono {P : Program} {n : Nat} {x : Code} {Q Q' : Post} {φ : Slots} {S : List HP} (h : Run P n x Q φ S) (hq : ∀ e φ' S', Q e φ' S' → Q' e φ' S') : Run P n x Q' φ S :=
  ⟨fun c a hf hs => wp_mono (h.run c a hf hs) fun _ _ _ ⟨F', φ', S', h1, h2, h3, h4⟩ => ⟨F', φ', S', h1, h2, h3, hq _ _ _ h4⟩⟩
/-- what holds at the end of a piece of code, told for all paths -/
def Met {α : Type} (φy : α → Slots) (Sy : α → List HP) (Pr : α → Prop) : Post := fun e φ' S' => e = .normal ∧ ∃ y, Pr y ∧ Ent φ' S' (φy y) (Sy y)
theorem Run.cut {P : Program} {n : Nat} {x z : Code} {Q Q2 : Post} {φ : Slots} {S : List HP} {α : Type} (φy : α → Slots) (Sy : α → List HP) (Pr : α → Prop) (h1 : Run P n x (Met φy Sy Pr) φ S)
    (h2 : ∀ y, Pr y → Run P n z Q (φy y) (Sy y)) : Run P n x (Post.seq (Run P n z Q) Q2) φ S :=
  h1.mono fun e φ' S' ⟨he, y, hp, hen⟩ => by subst he; exact Run.weaken hen (h2 y hp)
theorem Met.mk {α : Type} {φy : α → Slots} {Sy : α → List HP} {Pr : α → Prop} {φ' : Slots} {S' : List HP} (y : α) (hp : Pr y) (h : Ent φ' S' (φy y) (Sy y)) : Met φy Sy Pr .normal φ' S' := ⟨rfl, y, hp, h⟩

section
variable {P : Program} {n : Nat} {φ : Slots} {S : List HP} {d : Option Tmp} {ty : TypeId} {ps : String} {af : Array Edge} {g : Option (Nat × Bool)}

/-- a new variable, as an operation that leaves what was there as it was -/
theorem EOpS.alloc {t : TypeId} {qs : List VP} [hz : IsNew P t qs] : EOpS P n φ S ⟨d, .alloc t, ty, ps, af, g⟩ (fun r S' => ∃ b, r = vptr b 0 ∧ S' = hcells b qs :: S) := by
  refine ⟨fun c a hf hs => ?_⟩
  obtain ⟨z, h1, h2⟩ := hz.z
  obtain ⟨hl, hs'⟩ := hs.new (k := 0) (o := .cells z.cells.toList.toArray t (0, 0)) (h := hcells c.w.heap.size qs) (fun hl => ⟨rfl, ⟨_, _, newW_new, by have := (h2 c).length; simpa using this.symm⟩, cellsAt_row newW_new (h2 _)⟩)
  exact ⟨.pointer (some ⟨c.w.heap.size, 0, none⟩), _, c.F, _, _, by simp [execOp, Instr.alloc, newVar, newRow, h1]; rfl, hl, ⟨fun b hb => newW_heap hb, by simp [newW]⟩, rfl, hs', _, rfl, rfl⟩

theorem UOp.setAdd {t : TypeId} [ht : IsSet P t] {x y z : Operand} {b : Nat} {ks : List ByteArray} {k : ByteArray} {C : HP → List HP} (hx : opd φ x = some (vmap b)) (hy : opd φ y = some (vstr k)) (hz : opd φ z = some (vbool true))
    (u' : Plc S (hset b ks) C) : UOp P n φ S ⟨d, .mapUpdate t x y z, ty, ps, af, g⟩ (fun S'' => S'' = C (hset b (ks ++ [k]))) := by
  refine ⟨fun c a hf hs => ?_⟩
  have u := u'.upd (hset b (ks ++ [k]))
  have h1 : a.eval x = _ := hf.opd hx
  have h2 : a.eval y = _ := hf.opd hy
  have h3 : a.eval z = _ := hf.opd hz
  obtain ⟨kt, et, hm, hd, _⟩ := ht.u
  have hs0 := hs
  obtain ⟨fs, hsf⟩ := hs
  obtain ⟨f, _, rfl, es, clock, hb, hin, hall⟩ := u.has.get hsf.all
  have hks : ∀ e ∈ es.toList, MapKept.IsKey .string e.key := fun e he => by obtain ⟨k, _, h, _⟩ := hin e he; rw [h]; trivial
  have hk : MapKept.IsKey .string (.string k) := trivial
  rcases MapKept.findNow_spec hk es.toList 0 hks with ⟨h4, h5⟩ | ⟨j, e, h4, h5, h6⟩
  · obtain ⟨hl, hs'⟩ := hs0.putO u hb (o := .map (es.push { key := .string k, val := .bool true, born := clock }) (clock + 1)) (fun f h => h.1) (fun hnew => by
      refine ⟨rfl, _, _, hnew, ?_, ?_⟩
      · intro e he
        simp only [Array.toList_push, List.mem_append, List.mem_singleton] at he
        rcases he with he | rfl
        · obtain ⟨k', hk', h⟩ := hin e he; exact ⟨k', by simp [hk'], h⟩
        · exact ⟨k, by simp, rfl, rfl⟩
      · intro k' hk'
        simp only [List.mem_append, List.mem_singleton] at hk'
        rcases hk' with hk' | rfl
        · obtain ⟨e, he, h⟩ := hall k' hk'; exact ⟨e, by simp [he], h⟩
        · exact ⟨{ key := .string k', val := .bool true, born := clock }, by simp, rfl⟩)
    exact ⟨_, c.F, _, by simp [execOp, h1, h2, h3, Instr.mapUpdate, run_underlying hm, MapKept.run_getObj_map hb, MapKept.run_checkKey hd hk, MapKept.run_findKey hd h4, MapKept.run_setObj_map _ hb]; rfl, hl, hs', rfl⟩
  · have hj : es[j]? = some e := by simpa using h5
    have hkey : ∀ e', es[j]? = some e' → ({ e' with key := .string k, val := .bool true } : MapEntry).key = e'.key := fun e' he' => by rw [hj] at he'; cases he'; exact h6.symm
    obtain ⟨hl, hs'⟩ := hs0.putO u hb (o := .map (es.modify j fun e => { e with key := .string k, val := .bool true }) clock) (fun f h => h.1) (fun hnew => by
      refine ⟨rfl, _, _, hnew, ?_, ?_⟩
      · intro e' he'
        rw [List.mem_iff_getElem?] at he'
        obtain ⟨i, hi⟩ := he'
        simp only [Array.getElem?_toList, Array.getElem?_modify] at hi
        by_cases hij : j = i
        · subst hij
          rw [if_pos rfl, hj] at hi
          simp only [Option.map_some, Option.some.injEq] at hi
          subst hi
          exact ⟨k, by simp, rfl, rfl⟩
        · rw [if_neg hij] at hi
          have : e' ∈ es.toList := List.mem_iff_getElem?.2 ⟨i, by simpa using hi⟩
          obtain ⟨k', hk', h⟩ := hin e' this; exact ⟨k', by simp [hk'], h⟩
      · have hkeys := MapKept.modify_keys (es := es) j _ hkey
        have h7 : ∀ k', (∃ e ∈ es.toList, e.key = .string k') → ∃ e ∈ (es.modify j fun e => { e with key := Value.string k, val := Value.bool true }).toList, e.key = .string k' := fun k' ⟨e', he', h'⟩ => by
          have : Value.string k' ∈ es.toList.map (·.key) := List.mem_map.2 ⟨e', he', h'⟩
          rw [← hkeys] at this
          obtain ⟨y, hy, e⟩ := List.mem_map.1 this
          exact ⟨y, hy, e⟩
        intro k' hk'
        simp only [List.mem_append, List.mem_singleton] at hk'
        rcases hk' with hk' | rfl
        · exact h7 k' (hall k' hk')
        · exact h7 k' ⟨e, List.mem_iff_getElem?.2 ⟨j, h5⟩, h6⟩)
    exact ⟨_, c.F, _, by simp [execOp, h1, h2, h3, Instr.mapUpdate, run_underlying hm, MapKept.run_getObj_map hb, MapKept.run_checkKey hd hk, MapKept.run_findKey hd h4, hj, h6, MapKept.run_keyThatStays hk, MapKept.run_setObj_map _ hb]; rfl, hl, hs', rfl⟩

theorem VOp.setHas {t : TypeId} [ht : IsSet P t] {x y : Operand} {b : Nat} {ks : List ByteArray} {k : ByteArray} (hx : opd φ x = some (vmap b)) (hy : opd φ y = some (vstr k)) (hh : Has S (hset b ks)) :
    VOp P n φ S ⟨d, .lookup t x y false, ty, ps, af, g⟩ (vbool (decide (k ∈ ks))) := by
  refine ⟨fun c a hf ⟨fs, hs⟩ => ?_⟩
  have h1 : a.eval x = _ := hf.opd hx
  have h2 : a.eval y = _ := hf.opd hy
  obtain ⟨kt, et, hm, hd, hz⟩ := ht.u
  obtain ⟨f, _, _, es, clock, hb, hin, hall⟩ := hh.get hs.all
  have hks : ∀ e ∈ es.toList, MapKept.IsKey .string e.key := fun e he => by obtain ⟨k, _, h, _⟩ := hin e he; rw [h]; trivial
  have hk : MapKept.IsKey .string (.string k) := trivial
  have hlt : b < c.w.heap.size := (Array.getElem?_eq_some_iff.1 hb).1
  refine ⟨.bool (decide (k ∈ ks)), fun w' hw' => ?_, rfl⟩
  have hb' : w'.heap[b]? = some (.map es clock) := (hw'.heap b hlt).trans hb
  rcases MapKept.findNow_spec hk es.toList 0 hks with ⟨h4, h5⟩ | ⟨j, e, h4, h5, h6⟩
  · have hno : ¬ k ∈ ks := fun h => by obtain ⟨e, he, h'⟩ := hall k h; exact h5 e he h'
    simp [execOp, h1, h2, Instr.lookup, run_underlying hm, MapKept.run_getObj_map hb', MapKept.run_checkKey hd hk, MapKept.run_findKey hd h4, hz, hno]
  · have hmem : e ∈ es.toList := List.mem_iff_getElem?.2 ⟨j, h5⟩
    obtain ⟨k', hk', h7, h8⟩ := hin e hmem
    rw [h6] at h7
    have hkk : k ∈ ks := by cases h7; exact hk'
    simp [execOp, h1, h2, Instr.lookup, run_underlying hm, MapKept.run_getObj_map hb', MapKept.run_checkKey hd hk, MapKept.run_findKey hd h4, h8, hkk]

/-! ### bytes -/
theorem VOp.shr8 {t t' : TypeId} {x y : Operand} {i : Int} (hx : opd φ x = some (vint i)) (hy : opd φ y = some (vlit (.int .u64 8))) : VOp P n φ S ⟨d, .binOp .shr t x y t', ty, ps, af, g⟩ (vint (i / 256)) := by
  refine ⟨fun c a hf hs => ⟨.int .i64 (i / 256), fun w' hw' => ?_, rfl⟩⟩
  have h1 : a.eval x = _ := hf.opd hx
  have h2 : a.eval y = _ := hf.opd hy
  have e : i.fdiv (2 ^ (min (8 : Int).toNat IntKind.i64.bits)) = i / 256 := Int.fdiv_eq_ediv_of_nonneg i (by decide)
  simp only [execOp, h1, h2, eqGuard, binOp, Op.shift]
  simp [show ¬ ((8 : Int) < 0) by decide]
  exact e

theorem VOp.toU8 {t t2 : TypeId} [hs : IsI64 P t] [ht : IsU8 P t2] {x : Operand} {i : Int} (hx : opd φ x = some (vint i)) : VOp P n φ S ⟨d, .convert t t2 x, ty, ps, af, g⟩ (vu8 (i % 256)) := by
  refine ⟨fun c a hf hs' => ⟨.int .u8 (i % 256), fun w' hw' => ?_, rfl⟩⟩
  have h1 : a.eval x = _ := hf.opd hx
  have e : IntKind.u8.wrap i = i % 256 := by simp [IntKind.wrap, IntKind.bits, IntKind.signed]
  simp [execOp, h1, convert, run_underlying hs.u, run_underlying ht.u, Conv.intToInt, e]

/-- append of an array of the call's own to another one -/
theorem EOp.appOO {t t2 e e2 k k2 by' : Nat} {z : Value} [ht : IsSlM P t e k by' z] [h2 : IsSl P t2 e2 k2] {x y : Operand} {b len cap b2 m2 c2 : Nat} {α : Type} {r : α → List VP} {xs ys : List α} {sz2 : Nat} {C : HP → List HP} [h1 : OneR r]
    (hx : opd φ x = some (vsb b len cap)) (hy : opd φ y = some (vsb b2 m2 c2)) (hh : Has S (harr b2 k r ys sz2)) (hp : Plc S (harr b k r xs (cap * k)) C) (hlen : len = xs.length) (hm : ys.length = m2)
    (hbound : (xs.length + ys.length) * by' ≤ 140737488355328) (h63 : xs.length + ys.length ≤ 140737488355328) :
    EOp P n φ S ⟨d, .call ⟨.builtin .append, #[x, y], #[t, t2]⟩, ty, ps, af, g⟩ (fun q S' => ∃ b' cap', q = vsb b' (xs.length + ys.length) cap' ∧ S' = C (harr b' k r (xs ++ ys) (cap' * k))) :=
  EOp.app hx hy hp hlen (fun c u ⟨fs, hs⟩ hu => by
    obtain ⟨f, _, hp2⟩ := hh.get hs.all
    cases hu
    subst hm
    exact Src.own hp2 (fun c v y p hp h => h1.one c v y p hp h) rfl) hbound h63

/-- a row of bytes as a string -/
theorem VOp.toStr {t t2 : TypeId} {e k : Nat} [ht : IsSl P t e k] [he : IsU8 P e] [hd : IsStr P t2] {x : Operand} {b len cap sz : Nat} {xs : List Int} (hx : opd φ x = some (vsb b len cap)) (hh : Has S (harr b 1 (fun x : Int => [vu8 x]) xs sz)) (hl : xs.length = len) :
    VOp P n φ S ⟨d, .convert t t2 x, ty, ps, af, g⟩ (vstr (strOfNums xs)) := by
  refine ⟨fun c a hf ⟨fs, hs⟩ => ?_⟩
  have h1 : a.eval x = _ := hf.opd hx
  obtain ⟨f, _, _, ⟨arr, tt, hb, hsz, hfit⟩, hE⟩ := hh.get hs.all
  refine ⟨.string (strOfNums xs), fun w' hw' => ?_, rfl⟩
  have hc : ∀ i, i < len → w'.cell? ⟨b, 0 + i, none⟩ = some (.int .u8 (xs.getD i 0)) := fun i hi => by
    obtain ⟨_, h5⟩ := hE i _ (List.getElem?_eq_getElem (by omega))
    obtain ⟨v, h6, h7⟩ := h5 0 _ rfl
    have h8 : v = .int .u8 xs[i] := h7
    subst h8
    have := hw'.cell h6
    simp only [Nat.mul_one, Nat.add_zero] at this
    rw [this]
    simp [List.getD, List.getElem?_eq_getElem (show i < xs.length by omega)]
  have := run_convert_bytes_arg (P := P) w' t e ht.u he.u b 0 len cap xs hl hc t2 hd.u
  simp [execOp, h1, this]
end
end Go.Proofs.Ytodlpdedldhebaa
