/- Strings: joined, compared, cut. A buffer of bytes of the call's own: a string appended, the bytes read as a string. Proved for every program P; conditions: sizes below 2^47. -/
import Derived.Test.YtemfpennomelaaaDoorCoreZ
import Derived.Test.YtemfpennomelaaaDoorTypes
namespace Go.Proofs.YtemfpennomelaaaDoor
open Go Go.Proofs
set_option linter.unusedVariables false
/-- bytes as cells -/
def u8s (xs : List UInt8) : List Value := xs.map fun x => .int .u8 (x.toNat : Int)
theorem u8s_len (xs : List UInt8) : (u8s xs).length = xs.length := List.length_map _
/-- a buffer of bytes of the call's own -/
def hbuf (e : TypeId) (v : Value) (xs : List UInt8) : HP :=
  ⟨fun c f => (xs = [] ∧ v = .slice none 0 0 ∧ f = []) ∨
    ∃ b cap arr, v = .slice (some ⟨b, 0, none⟩) xs.length cap ∧ c.w.heap[b]? = some (.cells arr e (0, 0)) ∧ arr.size = cap ∧ xs.length ≤ cap ∧ arr.toList.take xs.length = u8s xs ∧ f = [b],
   fun {_ _ _} _ hk h => h.imp id fun ⟨b, cap, arr, h1, h2, h3⟩ => ⟨b, cap, arr, h1, (hk b (by rw [h3.2.2.2]; exact List.mem_singleton_self _)).trans h2, h3⟩⟩
/-- a fresh block of a known type -/
def hobj (b : Nat) (T : TypeId) (us : Array Value) : HP :=
  ⟨fun c f => f = [b] ∧ c.w.heap[b]? = some (.cells us T (0, 0)), fun {_ _ _} _ hk h => ⟨h.1, (hk b (by rw [h.1]; exact List.mem_singleton_self _)).trans h.2⟩⟩
theorem sub_all (k : ByteArray) : (k.extract 0 k.size).data.toList = k.data.toList := by
  rw [Lib.extract_data, Lib.size_eq, List.drop_zero, Nat.sub_zero, List.take_length]
section
variable {P : Program} {n : Nat} {φ : Slots} {S : List HP} {d : Option Tmp} {ty : TypeId} {ps : String} {af : Array Edge} {g : Option (Nat × Bool)}
theorem EOp.allocB {T : TypeId} {us : Array Value} (hz : ∃ z : Value, (∀ w, (zeroValue T).run P w = .ok z w) ∧ z.cells = us) : EOp P n φ S ⟨d, .alloc T, ty, ps, af, g⟩ (fun r S' => ∃ b, r = vptr b 0 ∧ S' = hobj b T us :: S) := by
  refine ⟨fun c a hf hs => ?_⟩
  obtain ⟨z, h1, rfl⟩ := hz
  obtain ⟨hl, hs'⟩ := hs.new (k := 0) (o := .cells z.cells.toList.toArray T (0, 0)) (h := hobj c.w.heap.size T z.cells) (fun hl => ⟨rfl, by rw [newW_new]⟩)
  exact ⟨.pointer (some ⟨c.w.heap.size, 0, none⟩), _, c.F, _, _, by simp [execOp, Instr.alloc, newVar, newRow, h1]; rfl, hl, rfl, hs', _, rfl, rfl⟩
/-! ### a string appended to bytes of the call's own -/
theorem Src.str {w : World} (k : ByteArray) : Src P 1 w (.string k) k.size (u8s k.data.toList) where
  len := fun w' => rfl
  cells := fun w' _ => by
    have e : ((k.extract 0 k.size).data.map fun b => Value.int .u8 (b.toNat : Int)) = (u8s k.data.toList).toArray := by
      apply Array.ext'
      rw [Array.toList_map, sub_all]; rfl
    show (pure (((k.extract 0 k.size).data.map fun b => Value.int .u8 (b.toNat : Int))) : Sem (Array Value)).run P w' = _
    rw [e]; rfl
  size := by rw [u8s_len, Nat.mul_one, Lib.size_eq]
  one := fun v hv => by obtain ⟨b, _, rfl⟩ := List.mem_map.1 hv; rfl
theorem run_appendS {t t2 e k by' : Nat} {z : Value} (ht : IsSlM P t e k by' z) (h2 : P.underlying t2 = some .string) {w : World} {b len cap : Nat} {arr : Array Value} {tt : TypeId} (hb : w.heap[b]? = some (.cells arr tt (0, 0)))
    (hsz : arr.size = cap * k) (hlen : len ≤ cap) {u : Value} {m : Nat} {vs : List Value} (hu : Src P k w u m vs) (hbound : (len + m) * by' ≤ 140737488355328) (h63 : len + m ≤ 140737488355328) :
    (len + m ≤ cap ∧ (Builtin.append_ #[t, t2] ty #[.slice (some ⟨b, 0, none⟩) len cap, u]).run P w =
      .ok (.slice (some ⟨b, 0, none⟩) (len + m) cap) (setW w b (arr.toList.take (len * k) ++ vs ++ arr.toList.drop (len * k + vs.length)).toArray tt)) ∨
    (cap < len + m ∧ ∃ cap' rest, len + m ≤ cap' ∧ (Builtin.append_ #[t, t2] ty #[.slice (some ⟨b, 0, none⟩) len cap, u]).run P w =
      .ok (.slice (some ⟨w.heap.size, 0, none⟩) (len + m) cap') (newW w 1 (.cells (arr.toList.take (len * k) ++ vs ++ rest).toArray e)) ∧ (arr.toList.take (len * k) ++ vs ++ rest).length = cap' * k) := by
  obtain ⟨i, hu', hi, hz0, rfl, rfl, hzs, hk⟩ := ht.ex
  have hlk : len * i.size ≤ cap * i.size := Nat.mul_le_mul_right _ hlen
  have htake : (arr.toList.take (len * i.size)).length = len * i.size := by simp; omega
  by_cases hroom : len + m ≤ cap
  · refine .inl ⟨hroom, ?_⟩
    have hfit : len * i.size + vs.length ≤ arr.size := by rw [hu.size, ← Nat.add_mul, hsz]; exact Nat.mul_le_mul_right _ hroom
    have hput := run_put (P := P) hb hfit hu.one
    simp [Builtin.append_, run_underlying hu', run_underlying h2, run_sz hi, hu.len, hroom, hu.cells w rfl, add_zero_addr, hput]
  · refine .inr ⟨by omega, ?_⟩
    have hold : ∀ w', w'.heap = w.heap → (Builtin.firstCells i.size len (.slice (some ⟨b, 0, none⟩) len cap)).run P w' = .ok (arr.toList.take (len * i.size)).toArray w' := fun w' hw => by
      refine run_firstCells_some w' i.size len _ len cap _ htake (fun j v hv => ?_)
      rw [add_zero_addr, Nat.zero_add, cell_heap hw, cell_row hb]
      rw [List.getElem?_take] at hv
      split at hv
      · simpa using hv
      · cases hv
    have hq : ¬ (Question.appendCap (len + m) cap e).forced = true := by simp [Question.forced]
    have hcap : ¬ (281474976710656 < Builtin.nextslicecap (len + m) cap * i.bytes) := by
      have := growslice_fits (need := len + m) (old := cap) (bytes := i.bytes) (by omega) hbound; omega
    have hmax : ¬ ((9223372036854775807 : Int) < (len : Int) + (m : Int)) := by omega
    let cap' := (Question.appendCap (len + m) cap e).cut (w.tape w.drawn (.appendCap (len + m) cap e))
    have hcap' : len + m ≤ cap' := by show len + m ≤ (len + m) + _; omega
    refine ⟨cap', (Builtin.zeroCells z.cells (cap' - (len + m))).toList, hcap', ?_, ?_⟩
    · have hzero : ∀ w', (zeroValue e).run P w' = .ok z w' := fun w' => by simp [zeroValue, typeInfo, hi, hz0]
      have hzw : ∀ w', (typeInfo e).run P w' = .ok i w' := fun w' => by simp [typeInfo, hi]
      have e1 := hold w.drew rfl
      have e2 := hu.cells w.drew rfl
      simp only [Builtin.append_]
      simp [run_underlying hu', run_underlying h2, run_sz hi, hu.len, hroom, hmax, hzw, hcap, hzero, hq, e1, e2, newRow]
      refine ⟨rfl, ?_⟩
      show ({ w with heap := w.heap.push _, drawn := w.drawn + 1 } : World) = { w with heap := w.heap.push _, drawn := w.drawn + 1 }
      congr 2
      congr 1
      apply Array.ext'
      simp [cap']
    · simp only [List.length_append, htake, hu.size, Array.length_toList, Builtin.zeroCells, Array.size_map, Array.size_range, hzs, ← Nat.add_mul]
      congr 1; omega
theorem run_appendS_nil {t t2 e k by' : Nat} {z : Value} (ht : IsSlM P t e k by' z) (h2 : P.underlying t2 = some .string) {w : World} {u : Value} {m : Nat} {vs : List Value} (hu : Src P k w u m vs) (hm0 : 0 < m) (hbound : m * by' ≤ 140737488355328) (h63 : m ≤ 140737488355328) :
    ∃ cap' rest, m ≤ cap' ∧ (Builtin.append_ #[t, t2] ty #[.slice none 0 0, u]).run P w = .ok (.slice (some ⟨w.heap.size, 0, none⟩) m cap') (newW w 1 (.cells (vs ++ rest).toArray e)) ∧ (vs ++ rest).length = cap' * k := by
  obtain ⟨i, hu', hi, hz0, rfl, rfl, hzs, hk⟩ := ht.ex
  have hroom : ¬ (m ≤ 0) := by omega
  have hq : ¬ (Question.appendCap m 0 e).forced = true := by simp [Question.forced]
  have hcap : ¬ (281474976710656 < Builtin.nextslicecap m 0 * i.bytes) := by
    have := growslice_fits (need := m) (old := 0) (bytes := i.bytes) (by omega) hbound; omega
  have hmax : ¬ ((9223372036854775807 : Int) < (m : Int)) := by omega
  let cap' := (Question.appendCap m 0 e).cut (w.tape w.drawn (.appendCap m 0 e))
  have hcap' : m ≤ cap' := by show m ≤ m + _; omega
  refine ⟨cap', (Builtin.zeroCells z.cells (cap' - m)).toList, hcap', ?_, ?_⟩
  · have hzero : ∀ w', (zeroValue e).run P w' = .ok z w' := fun w' => by simp [zeroValue, typeInfo, hi, hz0]
    have hzw : ∀ w', (typeInfo e).run P w' = .ok i w' := fun w' => by simp [typeInfo, hi]
    have e2 := hu.cells w.drew rfl
    have hm' : ¬ m = 0 := by omega
    simp only [Builtin.append_]
    simp [run_underlying hu', run_underlying h2, run_sz hi, hu.len, hm', hmax, hzw, hcap, hzero, hq, e2, newRow, run_firstCells_none]
    refine ⟨rfl, ?_⟩
    show ({ w with heap := w.heap.push _, drawn := w.drawn + 1 } : World) = { w with heap := w.heap.push _, drawn := w.drawn + 1 }
    congr 2
    congr 1
    apply Array.ext'
    simp [cap']
  · simp only [List.length_append, hu.size, Array.length_toList, Builtin.zeroCells, Array.size_map, Array.size_range, hzs, ← Nat.add_mul]
    congr 1; omega
theorem EOp.appStr {t t2 e by' : Nat} {z : Value} [ht : IsSlM P t e 1 by' z] [h2 : IsStr P t2] {x y : Operand} {v : Value} {xs : List UInt8} {k : ByteArray} {S1 : List HP} (hx : opd φ x = some (vlit v)) (hy : opd φ y = some (vstr k)) (hr : Rem S (hbuf e v xs) S1)
    (hbound : (xs.length + k.size) * by' ≤ 140737488355328) (h63 : xs.length + k.size ≤ 140737488355328) :
    EOp P n φ S ⟨d, .call ⟨.builtin .append, #[x, y], #[t, t2]⟩, ty, ps, af, g⟩ (fun q S' => ∃ s : Sv, q = vlit (vsv s) ∧ S' = hbuf e (vsv s) (xs ++ k.data.toList) :: S1) := by
  refine ⟨fun c a hf hs0 => ?_⟩
  have h1 : a.eval x = v := hf.opd hx
  have hy' : a.eval y = .string k := hf.opd hy
  obtain ⟨fs, f, hs⟩ := hs0.rem hr
  have hu := Src.str (P := P) (w := c.w) k
  have hks : k.data.toList.length = k.size := (Lib.size_eq k).symm
  have hex : ∀ v' w', (Builtin.append_ #[t, t2] ty #[v, .string k]).run P c.w = .ok v' w' →
      (execOp a.eval ⟨d, .call ⟨.builtin .append, #[x, y], #[t, t2]⟩, ty, ps, af, g⟩).run P c.w = .ok (.value v') w' := fun v' w' h => by
    simp [execOp, resolve, invoke, builtin, h1, hy', h]
  obtain ⟨ha, hnd, hown, hfro, hdis⟩ := hs
  cases ha with
  | cons hv hr0 =>
    simp only [List.flatten_cons] at hnd hown
    rcases hv with ⟨rfl, rfl, rfl⟩ | ⟨b, cap, arr, rfl, hb, hsz, hcap, htk, rfl⟩
    · rcases Nat.eq_zero_or_pos k.size with e0 | e0
      · have ek : k.data.toList = [] := List.length_eq_zero_iff.1 (hks.trans e0)
        refine ⟨_, _, c.F, _, hbuf e (.slice none 0 0) [] :: S1, hex (.slice none 0 0) c.w ?_, .refl c, rfl, ⟨[] :: fs, .cons (.inl ⟨rfl, rfl, rfl⟩) hr0, by simpa using hnd, by simpa using hown, hfro, hdis⟩, (none, 0, 0), rfl, by rw [ek]; rfl⟩
        obtain ⟨i, hu', hi, hz0, _, _, hzs, hk⟩ := ht.ex
        have hc := hu.cells c.w rfl
        rw [e0, ek] at hc
        simp [Builtin.append_, run_underlying hu', run_underlying h2.u, run_sz hi, Builtin.lenOf, e0]
        simp [Builtin.firstCells]
      · obtain ⟨cap', rest, hc', hrun, hl'⟩ := run_appendS_nil (P := P) (ty := ty) ht h2.u hu e0 (by simpa using hbound) (by simpa using h63)
        have hl : c.le ⟨c.F, c.U, newW c.w 1 (.cells ((u8s k.data.toList) ++ rest).toArray e)⟩ := newW_le hfro
        refine ⟨_, _, c.F, _, hbuf e (.slice (some ⟨c.w.heap.size, 0, none⟩) k.size cap') k.data.toList :: S1, hex _ _ hrun, hl, rfl, ⟨[c.w.heap.size] :: fs, .cons (.inr ⟨c.w.heap.size, cap', _, by rw [hks], newW_new, by rw [Nat.mul_one] at hl'; simpa using hl', by rw [hks]; exact hc', ?_, rfl⟩) (hr0.keep hl.v fun k hk => newW_heap (hown k (by simpa using hk)).2.2), ?_, ?_, fun k hk => Nat.lt_of_lt_of_le (hfro k hk) hl.size, hdis⟩, (some ⟨c.w.heap.size, 0, none⟩, k.size, cap'), rfl, rfl⟩
        · show List.take _ (_ ++ rest) = _
          rw [List.take_append_of_le_length (by rw [u8s_len]; exact Nat.le_refl _), List.take_of_length_le (by rw [u8s_len]; exact Nat.le_refl _)]
        · simp only [List.flatten_cons, List.singleton_append, List.nodup_cons]
          exact ⟨fun h => by have := (hown _ (by simpa using h)).2.2; omega, by simpa using hnd⟩
        · intro x hx
          simp only [List.flatten_cons, List.singleton_append, List.mem_cons] at hx
          rcases hx with rfl | hx
          · exact ⟨fun h => by have := hfro _ (.inl h); omega, fun h => by have := hfro _ (.inr h); omega, by simp [newW_size]⟩
          · have := hown x (by simpa using hx)
            exact ⟨this.1, this.2.1, Nat.lt_of_lt_of_le this.2.2 hl.size⟩
    · simp only [List.singleton_append, List.nodup_cons, List.mem_cons] at hnd hown
      have hbo := hown b (.inl rfl)
      rcases run_appendS (P := P) (ty := ty) ht h2.u hb (by rw [Nat.mul_one]; exact hsz) hcap hu hbound h63 with ⟨hroom, hrun⟩ | ⟨hno, cap', rest, hc', hrun, hl'⟩
      · rw [Nat.mul_one] at hrun
        have hfit : xs.length + (u8s k.data.toList).length ≤ arr.size := by rw [u8s_len, hks, hsz]; exact hroom
        let arr' := (arr.toList.take xs.length ++ (u8s k.data.toList) ++ arr.toList.drop (xs.length + (u8s k.data.toList).length)).toArray
        have hl : c.le ⟨c.F, c.U, setW c.w b arr' e⟩ := ⟨fun _ h => h, rfl, fun k hk => setW_other (fun e => hk.elim (fun h => hbo.1 (e ▸ h)) (fun h => hbo.2.1 (e ▸ h))), by simp [setW_size], rfl, rfl, rfl⟩
        refine ⟨_, _, c.F, _, hbuf e (.slice (some ⟨b, 0, none⟩) (xs.length + k.size) cap) (xs ++ k.data.toList) :: S1, hex _ _ hrun, hl, rfl, ⟨[b] :: fs, .cons (.inr ⟨b, cap, arr', by rw [List.length_append, hks], setW_at hbo.2.2, by rw [← hsz]; exact put_size hfit, by rw [List.length_append, hks]; exact hroom, ?_, rfl⟩) (hr0.keep hl.v fun j hj => setW_other (fun e => hnd.1 (e ▸ hj))), ?_, ?_, fun k hk => Nat.lt_of_lt_of_le (hfro k hk) hl.size, hdis⟩, (some ⟨b, 0, none⟩, xs.length + k.size, cap), rfl, rfl⟩
        · have e1 : (arr.toList.take xs.length).length = xs.length := by (have h8 : arr.toList.length = arr.size := Array.length_toList); (rw [List.length_take]; omega)
          show List.take _ (arr.toList.take xs.length ++ (u8s k.data.toList) ++ arr.toList.drop _) = _
          rw [List.take_append_of_le_length (by simp [e1, u8s_len]), List.take_of_length_le (by simp [e1, u8s_len]), htk, u8s, u8s, u8s, List.map_append]
        · simp only [List.flatten_cons, List.singleton_append, List.nodup_cons]; exact hnd
        · intro x hx
          simp only [List.flatten_cons, List.singleton_append, List.mem_cons] at hx
          have := hown x hx
          exact ⟨this.1, this.2.1, Nat.lt_of_lt_of_le this.2.2 hl.size⟩
      · rw [Nat.mul_one] at hrun hl'
        have hl : c.le ⟨c.F, c.U, newW c.w 1 (.cells (arr.toList.take xs.length ++ (u8s k.data.toList) ++ rest).toArray e)⟩ := newW_le hfro
        refine ⟨_, _, c.F, _, hbuf e (.slice (some ⟨c.w.heap.size, 0, none⟩) (xs.length + k.size) cap') (xs ++ k.data.toList) :: S1, hex _ _ hrun, hl, rfl, ⟨[c.w.heap.size] :: fs, .cons (.inr ⟨c.w.heap.size, cap', _, by rw [List.length_append, hks], newW_new, by rw [Nat.mul_one] at hl'; simpa using hl', by rw [List.length_append, hks]; exact hc', ?_, rfl⟩) (hr0.keep hl.v fun k hk => newW_heap (hown k (.inr hk)).2.2), ?_, ?_, fun k hk => Nat.lt_of_lt_of_le (hfro k hk) hl.size, hdis⟩, (some ⟨c.w.heap.size, 0, none⟩, xs.length + k.size, cap'), rfl, rfl⟩
        · have e1 : (arr.toList.take xs.length).length = xs.length := by (have h8 : arr.toList.length = arr.size := Array.length_toList); (rw [List.length_take]; omega)
          show List.take _ (arr.toList.take xs.length ++ (u8s k.data.toList) ++ rest) = _
          rw [List.take_append_of_le_length (by simp [e1, u8s_len]), List.take_of_length_le (by simp [e1, u8s_len]), htk, u8s, u8s, u8s, List.map_append]
        · simp only [List.flatten_cons, List.singleton_append, List.nodup_cons]
          exact ⟨fun h => by have := (hown _ (.inr h)).2.2; omega, hnd.2⟩
        · intro x hx
          simp only [List.flatten_cons, List.singleton_append, List.mem_cons] at hx
          rcases hx with rfl | hx
          · exact ⟨fun h => by have := hfro _ (.inl h); omega, fun h => by have := hfro _ (.inr h); omega, by simp [newW_size]⟩
          · have := hown x (.inr hx)
            exact ⟨this.1, this.2.1, Nat.lt_of_lt_of_le this.2.2 hl.size⟩
end
end Go.Proofs.YtemfpennomelaaaDoor
