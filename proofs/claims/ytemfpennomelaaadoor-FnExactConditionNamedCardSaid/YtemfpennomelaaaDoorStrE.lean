/- Maps from strings to strings of the call's own; lists of strings; the lesser of two numbers. Proved for every program P; conditions: those of the rules. -/
import Derived.Test.YtemfpennomelaaaDoorStrA
namespace Go.Proofs.YtemfpennomelaaaDoor
open Go Go.Proofs
set_option linter.unusedVariables false
class IsMapS (P : Program) (t : TypeId) : Prop where
  u : ∃ k e, P.underlying t = some (.map k e) ∧ P.underlying k = some .string ∧ ∀ w, (zeroValue e).run P w = .ok (.string .empty) w
abbrev KVS := List (ByteArray × ByteArray)
/-- a map from strings to strings of the call's own: keys in the order in which they came, each once -/
def hmapS (b : Nat) (kv : KVS) : HP :=
  ⟨fun c fs => fs = [b] ∧ (kv.map Prod.fst).Nodup ∧ ∃ es clock, c.w.heap[b]? = some (.map es clock) ∧ (∀ e ∈ es.toList, ∃ p ∈ kv, e.key = .string p.1 ∧ e.val = .string p.2) ∧ (∀ p ∈ kv, ∃ e ∈ es.toList, e.key = .string p.1) ∧ (es.toList.map (·.key)).Nodup,
   fun {_ _ _} _ hk h => by
    obtain ⟨rfl, h0, es, clock, h1, h2, h3, h4⟩ := h
    exact ⟨rfl, h0, es, clock, (hk b (by simp)).trans h1, h2, h3, h4⟩⟩
/-- the value of a key, the empty string where there is none -/
def ksGet : KVS → ByteArray → ByteArray
  | [], _ => .empty
  | p :: kv, k => if p.1 = k then p.2 else ksGet kv k
theorem ksGet_in : ∀ {kv : KVS} {p : ByteArray × ByteArray}, (kv.map Prod.fst).Nodup → p ∈ kv → ksGet kv p.1 = p.2
  | [], p, _, h => by cases h
  | q :: kv, p, hn, h => by
    rw [List.map_cons, List.nodup_cons] at hn
    rw [ksGet]
    rcases List.mem_cons.1 h with rfl | h
    · rw [if_pos rfl]
    · rw [if_neg (fun e => hn.1 (by rw [e]; exact List.mem_map.2 ⟨p, h, rfl⟩))]
      exact ksGet_in hn.2 h
theorem ksGet_out : ∀ {kv : KVS} {k : ByteArray}, k ∉ kv.map Prod.fst → ksGet kv k = .empty
  | [], _, _ => rfl
  | q :: kv, k, h => by
    rw [List.map_cons, List.mem_cons, not_or] at h
    rw [ksGet, if_neg (fun e => h.1 e.symm), ksGet_out h.2]

section
variable {P : Program} {n : Nat} {φ : Slots} {S : List HP} {d : Option Tmp} {ty : TypeId} {ps : String} {af : Array Edge} {g : Option (Nat × Bool)}
theorem EOp.makeMapS {t : TypeId} [ht : IsMapS P t] : EOp P n φ S ⟨d, .makeMap t none, ty, ps, af, g⟩ (fun r S' => ∃ b, r = vmap b ∧ S' = hmapS b [] :: S) := by
  refine ⟨fun c a hf hs => ?_⟩
  obtain ⟨hl, hs'⟩ := hs.new (k := 0) (o := .map #[] 0) (h := hmapS c.w.heap.size []) (fun hl => ⟨rfl, .nil, #[], 0, newW_new, by simp, by simp, .nil⟩)
  exact ⟨.map (some c.w.heap.size), _, c.F, _, _, by simp [execOp, Instr.makeMap]; rfl, hl, rfl, hs', _, rfl, rfl⟩

theorem UOp.mapSIns {t : TypeId} [ht : IsMapS P t] {x y z : Operand} {b : Nat} {kv : KVS} {k : ByteArray} {i : ByteArray} {C : HP → List HP} (hx : opd φ x = some (vmap b)) (hy : opd φ y = some (vstr k)) (hz : opd φ z = some (vstr i))
    (u' : Plc S (hmapS b kv) C) (hno : k ∉ kv.map Prod.fst) : UOp P n φ S ⟨d, .insert t x y z, ty, ps, af, g⟩ (fun S'' => S'' = C (hmapS b (kv ++ [(k, i)]))) := by
  refine ⟨fun c a hf hs => ?_⟩
  have u := u'.upd (hmapS b (kv ++ [(k, i)]))
  have h1 : a.eval x = _ := hf.opd hx
  have h2 : a.eval y = _ := hf.opd hy
  have h3 : a.eval z = _ := hf.opd hz
  obtain ⟨kt, et, hm, hd, _⟩ := ht.u
  have hs0 := hs
  obtain ⟨fs, hsf⟩ := hs
  obtain ⟨f, _, rfl, hnd, es, clock, hb, hin, hall, hun⟩ := u.has.get hsf.all
  have hks : ∀ e ∈ es.toList, MapKept.IsKey .string e.key := fun e he => by obtain ⟨k, _, h, _⟩ := hin e he; rw [h]; trivial
  have hk : MapKept.IsKey .string (.string k) := trivial
  rcases MapKept.findNow_spec hk es.toList 0 hks with ⟨h4, h5⟩ | ⟨j, e, h4, h5, h6⟩
  · obtain ⟨hl, hs'⟩ := hs0.putO u hb (o := .map (es.push { key := .string k, val := .string i, born := clock }) (clock + 1)) (fun f h => h.1) (fun hnew => by
      refine ⟨rfl, ?_, _, _, hnew, ?_, ?_, ?_⟩
      · rw [List.map_append, List.nodup_append]
        refine ⟨hnd, by simp, fun a ha b hb => ?_⟩
        simp only [List.map_cons, List.map_nil, List.mem_singleton] at hb
        subst hb
        exact fun e => hno (e ▸ ha)
      · intro e he
        simp only [Array.toList_push, List.mem_append, List.mem_singleton] at he
        rcases he with he | rfl
        · obtain ⟨k', hk', h⟩ := hin e he; exact ⟨k', by simp [hk'], h⟩
        · exact ⟨(k, i), by simp, rfl, rfl⟩
      · intro k' hk'
        simp only [List.mem_append, List.mem_singleton] at hk'
        rcases hk' with hk' | rfl
        · obtain ⟨e, he, h⟩ := hall k' hk'; exact ⟨e, by simp [he], h⟩
        · exact ⟨{ key := .string k, val := .string i, born := clock }, by simp, rfl⟩
      · rw [Array.toList_push, List.map_append, List.nodup_append]
        refine ⟨hun, by simp, fun a ha b hb => ?_⟩
        obtain ⟨e, he, rfl⟩ := List.mem_map.1 ha
        simp only [List.map_cons, List.map_nil, List.mem_singleton] at hb
        subst hb
        exact h5 e he)
    exact ⟨_, c.F, _, by simp [execOp, h1, h2, h3, Instr.mapUpdate, run_underlying hm, MapKept.run_getObj_map hb, MapKept.run_checkKey hd hk, MapKept.run_findKey hd h4, MapKept.run_setObj_map _ hb]; rfl, hl, hs', rfl⟩
  · exfalso
    have hmem : e ∈ es.toList := List.mem_iff_getElem?.2 ⟨j, h5⟩
    obtain ⟨p, hp, h7, _⟩ := hin e hmem
    rw [h6] at h7
    cases h7
    exact hno (List.mem_map.2 ⟨p, hp, rfl⟩)

theorem mapS_find {c : Ctx} {kt : TypeId} {b : Nat} {kv : KVS} {f : List Nat} (hd : P.underlying kt = some .string) (h : (hmapS b kv).p c f) (k : ByteArray) : ∃ es clock, c.w.heap[b]? = some (.map es clock) ∧
    ((k ∈ kv.map Prod.fst ∧ ∃ j, Instr.findNow .string (.string k) es.toList 0 = some (some (j, .string (ksGet kv k)))) ∨ k ∉ kv.map Prod.fst ∧ ksGet kv k = .empty ∧ Instr.findNow .string (.string k) es.toList 0 = some none) := by
  obtain ⟨_, hnd, es, clock, hb, hin, hall, _⟩ := h
  have hks : ∀ e ∈ es.toList, MapKept.IsKey .string e.key := fun e he => by obtain ⟨k, _, h, _⟩ := hin e he; rw [h]; trivial
  have hk : MapKept.IsKey .string (.string k) := trivial
  refine ⟨es, clock, hb, ?_⟩
  rcases MapKept.findNow_spec hk es.toList 0 hks with ⟨h4, h5⟩ | ⟨j, e, h4, h5, h6⟩
  · have hno : k ∉ kv.map Prod.fst := fun h => by
      obtain ⟨p, hp, rfl⟩ := List.mem_map.1 h
      obtain ⟨e, he, h'⟩ := hall p hp; exact h5 e he h'
    exact .inr ⟨hno, ksGet_out hno, h4⟩
  · have hmem : e ∈ es.toList := List.mem_iff_getElem?.2 ⟨j, h5⟩
    obtain ⟨p, hp, h7, h8⟩ := hin e hmem
    rw [h6] at h7
    cases h7
    rw [h8] at h4
    rw [ksGet_in hnd hp]
    exact .inl ⟨List.mem_map.2 ⟨p, hp, rfl⟩, _, h4⟩
/-- v, ok := m[k] -/
theorem VOp.mapSHas {t : TypeId} [ht : IsMapS P t] {x y : Operand} {b : Nat} {kv : KVS} {k : ByteArray} (hx : opd φ x = some (vmap b)) (hy : opd φ y = some (vstr k)) (hh : Has S (hmapS b kv)) :
    VOp P n φ S ⟨d, .lookup t x y true, ty, ps, af, g⟩ (vtup [vstr (ksGet kv k), vbool (decide (k ∈ kv.map Prod.fst))]) := by
  refine ⟨fun c a hf ⟨fs, hs⟩ => ?_⟩
  have h1 : a.eval x = _ := hf.opd hx
  have h2 : a.eval y = _ := hf.opd hy
  obtain ⟨kt, et, hm, hd, hz⟩ := ht.u
  obtain ⟨f, _, hp⟩ := hh.get hs.all
  have hk : MapKept.IsKey .string (.string k) := trivial
  obtain ⟨es, clock, hb, h3⟩ := mapS_find (P := P) hd hp k
  have hlt : b < c.w.heap.size := (Array.getElem?_eq_some_iff.1 hb).1
  refine ⟨.tuple #[.string (ksGet kv k), .bool (decide (k ∈ kv.map Prod.fst))], fun w' hw' => ?_, _, rfl, .cons rfl (.cons rfl .nil)⟩
  have hb' : w'.heap[b]? = some (.map es clock) := (hw'.heap b hlt).trans hb
  rcases h3 with ⟨h3, j, h4⟩ | ⟨h3, h5, h4⟩
  · simp [execOp, h1, h2, Instr.lookup, run_underlying hm, MapKept.run_getObj_map hb', MapKept.run_checkKey hd hk, MapKept.run_findKey hd h4, decide_eq_true h3]
  · simp [execOp, h1, h2, Instr.lookup, run_underlying hm, MapKept.run_getObj_map hb', MapKept.run_checkKey hd hk, MapKept.run_findKey hd h4, hz, decide_eq_false h3, h5]
theorem VOp.minL {ats : Array TypeId} {x y : Operand} {i j : Int} (hx : opd φ x = some (vint i)) (hy : opd φ y = some (vint j)) (h : i ≤ j) :
    VOp P n φ S ⟨d, .call ⟨.builtin .min, #[x, y], ats⟩, ty, ps, af, g⟩ (vint i) := by
  refine ⟨fun c a hf hs => ?_⟩
  have h1 : a.eval x = _ := hf.opd hx
  have h2 : a.eval y = _ := hf.opd hy
  refine ⟨.int .i64 i, fun w' hw' => ?_, rfl⟩
  have e : ¬ j < i := by omega
  simp [execOp, resolve, invoke, builtin, Builtin.min_, Builtin.min2, h1, h2, e]
end
end Go.Proofs.YtemfpennomelaaaDoor
