/- Operations that yield a value and leave the world alone: numbers, bools, tuples, slices and structs that are frozen. Proved for every program P; conditions: indices in bounds, no overflow, no division by zero. -/
import Derived.Test.YtodlpdedldhebaaCoreB
namespace Go.Proofs.Ytodlpdedldhebaa
open Go
set_option linter.unusedVariables false

/-- facts on types, found by the class search -/
class IsSl (P : Program) (t : TypeId) (e k : outParam Nat) : Prop where
  u : P.underlying t = some (.slice e)
  s : ∀ w, (sizeOf e).run P w = .ok k w
class IsBool (P : Program) (t : TypeId) : Prop where
  u : P.underlying t = some .bool

/-- that an int does not overflow -/
def InR (z : Int) : Prop := -9223372036854775808 ≤ z ∧ z ≤ 9223372036854775807
theorem InR.wrap {z : Int} (h : InR z) : IntKind.i64.wrap z = z := IntWalk.i64_in z h
theorem InR.mk {z : Int} (h1 : -4611686018427387904 ≤ z) (h2 : z ≤ 4611686018427387904) : InR z := ⟨by omega, by omega⟩

section
variable {P : Program} {n : Nat} {φ : Slots} {S : List HP} {d : Option Tmp} {ty : TypeId} {ps : String} {af : Array Edge} {g : Option (Nat × Bool)}

theorem VOp.move {x : Operand} {p : VP} (hx : opd φ x = some p) : VOp P n φ S ⟨d, .move x, ty, ps, af, g⟩ p := ⟨fun c a hf hs => ⟨a.eval x, fun _ _ => rfl, hf.opd hx⟩⟩
theorem VOp.assign {x : Operand} {p : VP} (hx : opd φ x = some p) : VOp P n φ S ⟨d, .assign x, ty, ps, af, g⟩ p := ⟨fun c a hf hs => ⟨a.eval x, fun _ _ => rfl, hf.opd hx⟩⟩
theorem VOp.pickT {x y z : Operand} {p : VP} (hx : opd φ x = some (vbool true)) (hy : opd φ y = some p) : VOp P n φ S ⟨d, .pick x y z, ty, ps, af, g⟩ p := ⟨fun c a hf hs => ⟨a.eval y, by intro w' hw'; have h : a.eval x = .bool true := hf.opd hx; simp [execOp, h, asBool], hf.opd hy⟩⟩
theorem VOp.pickF {x y z : Operand} {p : VP} (hx : opd φ x = some (vbool false)) (hy : opd φ z = some p) : VOp P n φ S ⟨d, .pick x y z, ty, ps, af, g⟩ p := ⟨fun c a hf hs => ⟨a.eval z, by intro w' hw'; have h : a.eval x = .bool false := hf.opd hx; simp [execOp, h, asBool], hf.opd hy⟩⟩

theorem equalIn_bool {t : TypeId} (ht : P.underlying t = some .bool) (k : Nat) (p q : Bool) (w : World) : (Op.equalIn (k + 1) t (.bool p) (.bool q)).run P w = .ok (p == q) w := by
  unfold Op.equalIn
  simp [run_underlying ht]
theorem equal_bool {t : TypeId} (ht : P.underlying t = some .bool) (p q : Bool) (w : World) : (Op.equal t (.bool p) (.bool q)).run P w = .ok (p == q) w :=
  equalIn_bool ht 9999 p q w
theorem equalIn_nil {t e : TypeId} (ht : P.underlying t = some (.slice e)) (k : Nat) (b : Option Addr) (l m : Nat) (w : World) : (Op.equalIn (k + 1) t (.slice b l m) (.slice none 0 0)).run P w = .ok b.isNone w := by
  unfold Op.equalIn
  cases b <;> simp [run_underlying ht]
theorem equal_nil {t e : TypeId} (ht : P.underlying t = some (.slice e)) (b : Option Addr) (l m : Nat) (w : World) : (Op.equal t (.slice b l m) (.slice none 0 0)).run P w = .ok b.isNone w :=
  equalIn_nil ht 9999 b l m w

section bin
variable {t t' : TypeId} {x y : Operand} {i j : Int}
theorem VOp.add (hx : opd φ x = some (vint i)) (hy : opd φ y = some (vint j)) (h : InR (i + j)) : VOp P n φ S ⟨d, .binOp .add t x y t', ty, ps, af, g⟩ (vint (i + j)) := ⟨fun c a hf hs => ⟨.int .i64 (i + j), by intro w' hw'; have h1 : a.eval x = .int .i64 i := hf.opd hx; have h2 : a.eval y = .int .i64 j := hf.opd hy; simp [execOp, h1, h2, binOp, eqGuard, Op.intArith, h.wrap], rfl⟩⟩
theorem VOp.sub (hx : opd φ x = some (vint i)) (hy : opd φ y = some (vint j)) (h : InR (i - j)) : VOp P n φ S ⟨d, .binOp .sub t x y t', ty, ps, af, g⟩ (vint (i - j)) := ⟨fun c a hf hs => ⟨.int .i64 (i - j), by intro w' hw'; have h1 : a.eval x = .int .i64 i := hf.opd hx; have h2 : a.eval y = .int .i64 j := hf.opd hy; simp [execOp, h1, h2, binOp, eqGuard, Op.intArith, h.wrap], rfl⟩⟩
theorem VOp.mul (hx : opd φ x = some (vint i)) (hy : opd φ y = some (vint j)) (h : InR (i * j)) : VOp P n φ S ⟨d, .binOp .mul t x y t', ty, ps, af, g⟩ (vint (i * j)) := ⟨fun c a hf hs => ⟨.int .i64 (i * j), by intro w' hw'; have h1 : a.eval x = .int .i64 i := hf.opd hx; have h2 : a.eval y = .int .i64 j := hf.opd hy; simp [execOp, h1, h2, binOp, eqGuard, Op.intArith, h.wrap], rfl⟩⟩
theorem VOp.quo (hx : opd φ x = some (vint i)) (hy : opd φ y = some (vint j)) (hi : 0 ≤ i) (hj : 0 < j) (h : InR i) : VOp P n φ S ⟨d, .binOp .quo t x y t', ty, ps, af, g⟩ (vint (i / j)) := ⟨fun c a hf hs => ⟨.int .i64 (i / j), by
    intro w' hw'
    have h1 : a.eval x = .int .i64 i := hf.opd hx
    have h2 : a.eval y = .int .i64 j := hf.opd hy
    have hne : j ≠ 0 := by omega
    have hq : InR (i / j) := ⟨by have := Int.ediv_nonneg hi (Int.le_of_lt hj); omega, by have := Int.ediv_le_self j hi; have := h.2; omega⟩
    simp [execOp, h1, h2, binOp, eqGuard, Op.intDiv, hne, Int.tdiv_eq_ediv_of_nonneg hi, hq.wrap], rfl⟩⟩
theorem VOp.rem (hx : opd φ x = some (vint i)) (hy : opd φ y = some (vint j)) (hi : 0 ≤ i) (hj : 0 < j) : VOp P n φ S ⟨d, .binOp .rem t x y t', ty, ps, af, g⟩ (vint (i % j)) := ⟨fun c a hf hs => ⟨.int .i64 (i % j), by
    intro w' hw'
    have h1 : a.eval x = .int .i64 i := hf.opd hx
    have h2 : a.eval y = .int .i64 j := hf.opd hy
    have hne : j ≠ 0 := by omega
    simp [execOp, h1, h2, binOp, eqGuard, Op.intDiv, hne, Int.tmod_eq_emod_of_nonneg hi], rfl⟩⟩
theorem VOp.lss (hx : opd φ x = some (vint i)) (hy : opd φ y = some (vint j)) : VOp P n φ S ⟨d, .binOp .lss t x y t', ty, ps, af, g⟩ (vbool (decide (i < j))) := ⟨fun c a hf hs => ⟨.bool (decide (i < j)), by intro w' hw'; have h1 : a.eval x = .int .i64 i := hf.opd hx; have h2 : a.eval y = .int .i64 j := hf.opd hy; simp [execOp, h1, h2, binOp, eqGuard, Op.intCmp], rfl⟩⟩
theorem VOp.leq (hx : opd φ x = some (vint i)) (hy : opd φ y = some (vint j)) : VOp P n φ S ⟨d, .binOp .leq t x y t', ty, ps, af, g⟩ (vbool (decide (i ≤ j))) := ⟨fun c a hf hs => ⟨.bool (decide (i ≤ j)), by intro w' hw'; have h1 : a.eval x = .int .i64 i := hf.opd hx; have h2 : a.eval y = .int .i64 j := hf.opd hy; simp [execOp, h1, h2, binOp, eqGuard, Op.intCmp], rfl⟩⟩
theorem VOp.gtr (hx : opd φ x = some (vint i)) (hy : opd φ y = some (vint j)) : VOp P n φ S ⟨d, .binOp .gtr t x y t', ty, ps, af, g⟩ (vbool (decide (j < i))) := ⟨fun c a hf hs => ⟨.bool (decide (j < i)), by intro w' hw'; have h1 : a.eval x = .int .i64 i := hf.opd hx; have h2 : a.eval y = .int .i64 j := hf.opd hy; simp [execOp, h1, h2, binOp, eqGuard, Op.intCmp], rfl⟩⟩
theorem VOp.geq (hx : opd φ x = some (vint i)) (hy : opd φ y = some (vint j)) : VOp P n φ S ⟨d, .binOp .geq t x y t', ty, ps, af, g⟩ (vbool (decide (j ≤ i))) := ⟨fun c a hf hs => ⟨.bool (decide (j ≤ i)), by intro w' hw'; have h1 : a.eval x = .int .i64 i := hf.opd hx; have h2 : a.eval y = .int .i64 j := hf.opd hy; simp [execOp, h1, h2, binOp, eqGuard, Op.intCmp], rfl⟩⟩
theorem VOp.eql (hx : opd φ x = some (vint i)) (hy : opd φ y = some (vint j)) : VOp P n φ S ⟨d, .binOp .eql t x y t', ty, ps, af, g⟩ (vbool (decide (i = j))) := ⟨fun c a hf hs => ⟨.bool (decide (i = j)), by
    intro w' hw'
    have h1 : a.eval x = .int .i64 i := hf.opd hx; have h2 : a.eval y = .int .i64 j := hf.opd hy
    have e : (i == j) = decide (i = j) := rfl
    simp [execOp, h1, h2, binOp, eqGuard, Op.intCmp, e], rfl⟩⟩
theorem VOp.neq (hx : opd φ x = some (vint i)) (hy : opd φ y = some (vint j)) : VOp P n φ S ⟨d, .binOp .neq t x y t', ty, ps, af, g⟩ (vbool (decide (i ≠ j))) := ⟨fun c a hf hs => ⟨.bool (decide (i ≠ j)), by
    intro w' hw'
    have h1 : a.eval x = .int .i64 i := hf.opd hx; have h2 : a.eval y = .int .i64 j := hf.opd hy
    have e : (i != j) = decide (i ≠ j) := by by_cases h : i = j <;> simp [h]
    simp [execOp, h1, h2, binOp, eqGuard, Op.intCmp, e], rfl⟩⟩
theorem VOp.beql {p q : Bool} (hx : opd φ x = some (vbool p)) (hy : opd φ y = some (vbool q)) [ht : IsBool P t] : VOp P n φ S ⟨d, .binOp .eql t x y t', ty, ps, af, g⟩ (vbool (p == q)) := ⟨fun c a hf hs => ⟨.bool (p == q), by
    intro w' hw'
    have h1 : a.eval x = .bool p := hf.opd hx; have h2 : a.eval y = .bool q := hf.opd hy
    simp only [execOp, h1, h2, eqGuard, binOp]
    simp [equal_bool ht.u], rfl⟩⟩
theorem VOp.bneq {p q : Bool} (hx : opd φ x = some (vbool p)) (hy : opd φ y = some (vbool q)) [ht : IsBool P t] : VOp P n φ S ⟨d, .binOp .neq t x y t', ty, ps, af, g⟩ (vbool (p != q)) := ⟨fun c a hf hs => ⟨.bool (p != q), by
    intro w' hw'
    have h1 : a.eval x = .bool p := hf.opd hx; have h2 : a.eval y = .bool q := hf.opd hy
    simp only [execOp, h1, h2, eqGuard, binOp]
    simp [equal_bool ht.u, bne], rfl⟩⟩
theorem VOp.eqNil {e k' : TypeId} {b : Option Addr} {lo m : Nat} (hx : opd φ x = some (vlit (.slice b lo m))) (hy : opd φ y = some (vlit (.slice none 0 0))) [ht : IsSl P t e k'] :
    VOp P n φ S ⟨d, .binOp .eql t x y t', ty, ps, af, g⟩ (vbool b.isNone) := ⟨fun c a hf hs => ⟨.bool b.isNone, by
    intro w' hw'
    have h1 : a.eval x = .slice b lo m := hf.opd hx; have h2 : a.eval y = .slice none 0 0 := hf.opd hy
    simp only [execOp, h1, h2, eqGuard, binOp]
    simp [equal_nil ht.u], rfl⟩⟩
theorem VOp.neNil {e k' : TypeId} {b : Option Addr} {lo m : Nat} (hx : opd φ x = some (vlit (.slice b lo m))) (hy : opd φ y = some (vlit (.slice none 0 0))) [ht : IsSl P t e k'] :
    VOp P n φ S ⟨d, .binOp .neq t x y t', ty, ps, af, g⟩ (vbool (!b.isNone)) := ⟨fun c a hf hs => ⟨.bool (!b.isNone), by
    intro w' hw'
    have h1 : a.eval x = .slice b lo m := hf.opd hx; have h2 : a.eval y = .slice none 0 0 := hf.opd hy
    simp only [execOp, h1, h2, eqGuard, binOp]
    simp [equal_nil ht.u], rfl⟩⟩
end bin

theorem VOp.not {t : TypeId} {x : Operand} {b : Bool} (hx : opd φ x = some (vbool b)) : VOp P n φ S ⟨d, .unOp .not t x, ty, ps, af, g⟩ (vbool (!b)) := ⟨fun c a hf hs => ⟨.bool (!b), by intro w' hw'; have h1 : a.eval x = .bool b := hf.opd hx; simp [execOp, h1, Op.unary], rfl⟩⟩
theorem VOp.neg {t : TypeId} {x : Operand} {i : Int} (hx : opd φ x = some (vint i)) (h : InR (-i)) : VOp P n φ S ⟨d, .unOp .neg t x, ty, ps, af, g⟩ (vint (-i)) := ⟨fun c a hf hs => ⟨.int .i64 (-i), by intro w' hw'; have h1 : a.eval x = .int .i64 i := hf.opd hx; simp [execOp, h1, Op.unary, Op.intArith, h.wrap], rfl⟩⟩

theorem VPs.get {c : Ctx} {qs : List VP} {vs : List Value} (h : VPs c qs vs) : ∀ (i : Nat) (p : VP), qs[i]? = some p → ∃ v, vs[i]? = some v ∧ p.p c v := by
  induction h with
  | nil => intro i p h; simp at h
  | cons hp _ ih =>
    intro i p h
    cases i with
    | zero => simp only [List.getElem?_cons_zero, Option.some.injEq] at h; subst h; exact ⟨_, rfl, hp⟩
    | succ i => exact ih i p (by simpa using h)

theorem VOp.extract {x : Operand} {i : Nat} {qs : List VP} {p : VP} (hx : opd φ x = some (vtup qs)) (hi : qs[i]? = some p) : VOp P n φ S ⟨d, .extract x i, ty, ps, af, g⟩ p := by
    refine ⟨fun c a hf hs => ?_⟩
    obtain ⟨vs, h1, h2⟩ := hf.opd hx
    obtain ⟨v, h3, h4⟩ := h2.get i p hi
    exact ⟨v, by intro w' hw'; simp [execOp, h1, Instr.extract, h3], h4⟩

end
end Go.Proofs.Ytodlpdedldhebaa
