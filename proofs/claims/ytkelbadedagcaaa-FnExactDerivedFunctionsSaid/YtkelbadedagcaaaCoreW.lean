/- Numbers without sign and their halves; the rows of an owned list frozen; one frozen row of an owned list written. Proved for every program P; conditions: numbers that are not negative and below 2^62, indices in bounds. -/
import Derived.Test.YtkelbadedagcaaaCoreV
import Derived.Lib.ReflectliteSwap
namespace Go.Proofs.Ytkelbadedagcaaa
open Go
set_option linter.unusedVariables false
class IsU64 (P : Program) (t : TypeId) : Prop where
  u : P.underlying t = some (.int .u64)
section
variable {P : Program} {n : Nat} {φ : Slots} {S : List HP} {d : Option Tmp} {ty : TypeId} {ps : String} {af : Array Edge} {g : Option (Nat × Bool)}
theorem VOp.toU64 {t t2 : TypeId} [hs : IsI64 P t] [ht : IsU64 P t2] {x : Operand} {i : Int} (hx : opd φ x = some (vint i)) (h0 : 0 ≤ i) (hi : i ≤ 4611686018427387904) : VOp P n φ S ⟨d, .convert t t2 x, ty, ps, af, g⟩ (vlit (.int .u64 i)) := by
  refine ⟨fun c a hf hs' => ⟨.int .u64 i, fun w' hw' => ?_, rfl⟩⟩
  have h1 : a.eval x = _ := hf.opd hx
  have e : IntKind.u64.wrap i = i := by simp [IntKind.wrap, IntKind.bits, IntKind.signed]; omega
  simp [execOp, h1, convert, run_underlying hs.u, run_underlying ht.u, Conv.intToInt, e]
theorem VOp.toI64 {t t2 : TypeId} [hs : IsU64 P t] [ht : IsI64 P t2] {x : Operand} {i : Int} (hx : opd φ x = some (vlit (.int .u64 i))) (h0 : 0 ≤ i) (hi : i ≤ 4611686018427387904) : VOp P n φ S ⟨d, .convert t t2 x, ty, ps, af, g⟩ (vint i) := by
  refine ⟨fun c a hf hs' => ⟨.int .i64 i, fun w' hw' => ?_, rfl⟩⟩
  have h1 : a.eval x = _ := hf.opd hx
  have e : IntKind.i64.wrap i = i := by simp [IntKind.wrap, IntKind.bits, IntKind.signed]; omega
  simp [execOp, h1, convert, run_underlying hs.u, run_underlying ht.u, Conv.intToInt, e]
theorem VOp.half {t t' : TypeId} {x y : Operand} {i : Int} (hx : opd φ x = some (vlit (.int .u64 i))) (hy : opd φ y = some (vlit (.int .u64 1))) : VOp P n φ S ⟨d, .binOp .shr t x y t', ty, ps, af, g⟩ (vlit (.int .u64 (i / 2))) := by
  refine ⟨fun c a hf hs => ⟨.int .u64 (i / 2), fun w' hw' => ?_, rfl⟩⟩
  have h1 : a.eval x = _ := hf.opd hx
  have h2 : a.eval y = _ := hf.opd hy
  have e : i.fdiv (2 ^ (min (1 : Int).toNat IntKind.u64.bits)) = i / 2 := Int.fdiv_eq_ediv_of_nonneg i (by decide)
  simp only [execOp, h1, h2, eqGuard, binOp, Op.shift]
  simp [show ¬ ((1 : Int) < 0) by decide]
  exact e
end
end Go.Proofs.Ytkelbadedagcaaa
