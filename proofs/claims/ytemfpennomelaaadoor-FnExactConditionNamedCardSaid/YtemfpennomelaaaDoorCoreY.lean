/- Strings: joined, compared, cut, one byte of them. Proved for every program P; conditions: sizes below 2^62. -/
import Derived.Test.YtemfpennomelaaaDoorCoreX
import Derived.Lib.Strings
namespace Go.Proofs.YtemfpennomelaaaDoor
open Go
set_option linter.unusedVariables false
/-- bytes as a string -/
def bs (l : List UInt8) : ByteArray := ⟨l.toArray⟩
theorem bs_size (l : List UInt8) : (bs l).size = l.length := by show l.toArray.size = _; simp
theorem mk_size (a : Array UInt8) : (ByteArray.mk a).size = a.size := rfl
theorem bytes_eq (a b : ByteArray) : (a.toList == b.toList) = decide (a = b) := by
  rw [Lib.toList_data, Lib.toList_data]
  by_cases h : a = b
  · subst h; simp
  · have : a.data.toList ≠ b.data.toList := fun e => h (by rw [← Lib.mk_data a, e, Lib.mk_data b])
    rw [decide_eq_false h]
    exact beq_eq_false_iff_ne.2 this
section
variable {P : Program} {n : Nat} {φ : Slots} {S : List HP} {d : Option Tmp} {ty : TypeId} {ps : String} {af : Array Edge} {g : Option (Nat × Bool)}
theorem VOp.cat {t t' : TypeId} {x y : Operand} {a b : ByteArray} (hx : opd φ x = some (vstr a)) (hy : opd φ y = some (vstr b)) (h : a.size + b.size ≤ 4611686018427387904) : VOp P n φ S ⟨d, .binOp .add t x y t', ty, ps, af, g⟩ (vstr (a ++ b)) := by
  refine ⟨fun c u hf hs => ⟨.string (a ++ b), fun w' hw' => ?_, rfl⟩⟩
  have h1 : u.eval x = _ := hf.opd hx
  have h2 : u.eval y = _ := hf.opd hy
  have h3 : ¬ (9223372036854775807 : Int) < (a.size : Int) + (b.size : Int) := by omega
  simp [execOp, h1, h2, binOp, eqGuard, Op.stringOp, h3]
theorem VOp.strNe {t t' : TypeId} {x y : Operand} {a b : ByteArray} (hx : opd φ x = some (vstr a)) (hy : opd φ y = some (vstr b)) : VOp P n φ S ⟨d, .binOp .neq t x y t', ty, ps, af, g⟩ (vbool (decide (a ≠ b))) := by
  refine ⟨fun c u hf hs => ⟨.bool (decide (a ≠ b)), fun w' hw' => ?_, rfl⟩⟩
  have h1 : u.eval x = _ := hf.opd hx
  have h2 : u.eval y = _ := hf.opd hy
  have e : (!(a.toList == b.toList)) = decide (a ≠ b) := by rw [bytes_eq]; simp
  simp only [execOp, h1, h2, binOp, eqGuard, Op.stringOp, e]
  rfl
theorem VOp.strEq {t t' : TypeId} {x y : Operand} {a b : ByteArray} (hx : opd φ x = some (vstr a)) (hy : opd φ y = some (vstr b)) : VOp P n φ S ⟨d, .binOp .eql t x y t', ty, ps, af, g⟩ (vbool (decide (a = b))) := by
  refine ⟨fun c u hf hs => ⟨.bool (decide (a = b)), fun w' hw' => ?_, rfl⟩⟩
  have h1 : u.eval x = _ := hf.opd hx
  have h2 : u.eval y = _ := hf.opd hy
  simp only [execOp, h1, h2, binOp, eqGuard, Op.stringOp, bytes_eq]
  rfl
theorem VOp.substr {t : TypeId} [ht : IsStr P t] {x y z : Operand} {k : ByteArray} {i j : Int} (hx : opd φ x = some (vstr k)) (hy : opd φ y = some (vint i)) (hz : opd φ z = some (vint j)) (h0 : 0 ≤ i) (h1 : i ≤ j) (h2 : j.toNat ≤ k.size) :
    VOp P n φ S ⟨d, .slice t x (some y) (some z) none, ty, ps, af, g⟩ (vstr (k.extract i.toNat j.toNat)) := by
  refine ⟨fun c u hf hs => ⟨.string (k.extract i.toNat j.toNat), fun w' hw' => ?_, rfl⟩⟩
  have e1 : u.eval x = _ := hf.opd hx
  have e2 : u.eval y = _ := hf.opd hy
  have e3 : u.eval z = _ := hf.opd hz
  have h3 : j ≤ (k.size : Int) := by omega
  have h4 : 0 ≤ j := by omega
  have h5 : i ≤ max j 0 := by omega
  simp [execOp, e1, e2, e3, Instr.sliceAt, Instr.slice, Instr.sliceBounds, Instr.sliceBound, run_underlying ht.u, asIntOf, h0, h3, h4, h5]
theorem VOp.substrHi {t : TypeId} [ht : IsStr P t] {x z : Operand} {k : ByteArray} {j : Int} (hx : opd φ x = some (vstr k)) (hz : opd φ z = some (vint j)) (h1 : 0 ≤ j) (h2 : j.toNat ≤ k.size) :
    VOp P n φ S ⟨d, .slice t x none (some z) none, ty, ps, af, g⟩ (vstr (k.extract 0 j.toNat)) := by
  refine ⟨fun c u hf hs => ⟨.string (k.extract 0 j.toNat), fun w' hw' => ?_, rfl⟩⟩
  have e1 : u.eval x = _ := hf.opd hx
  have e3 : u.eval z = _ := hf.opd hz
  have h3 : j ≤ (k.size : Int) := by omega
  simp [execOp, e1, e3, Instr.sliceAt, Instr.slice, Instr.sliceBounds, Instr.sliceBound, run_underlying ht.u, asIntOf, h1, h3]
theorem VOp.substrLo {t : TypeId} [ht : IsStr P t] {x y : Operand} {k : ByteArray} {i : Int} (hx : opd φ x = some (vstr k)) (hy : opd φ y = some (vint i)) (h0 : 0 ≤ i) (h2 : i.toNat ≤ k.size) :
    VOp P n φ S ⟨d, .slice t x (some y) none none, ty, ps, af, g⟩ (vstr (k.extract i.toNat k.size)) := by
  refine ⟨fun c u hf hs => ⟨.string (k.extract i.toNat k.size), fun w' hw' => ?_, rfl⟩⟩
  have e1 : u.eval x = _ := hf.opd hx
  have e2 : u.eval y = _ := hf.opd hy
  have h3 : i ≤ (k.size : Int) := by omega
  simp [execOp, e1, e2, Instr.sliceAt, Instr.slice, Instr.sliceBounds, Instr.sliceBound, run_underlying ht.u, asIntOf, h0, h3]
theorem VOp.strIx {t : TypeId} [ht : IsStr P t] {x y : Operand} {s : ByteArray} {i : Nat} (hx : opd φ x = some (vlit (.string s))) (hy : opd φ y = some (vint (i : Int))) (hi : i < s.size) : VOp P n φ S ⟨d, .index t x y, ty, ps, af, g⟩ (vu8 ((s[i]'hi).toNat : Int)) := by
  refine ⟨fun c a hf hs => ⟨.int .u8 ((s[i]'hi).toNat : Int), fun w' hw' => ?_, rfl⟩⟩
  have h1 : a.eval x = _ := hf.opd hx
  have h2 : a.eval y = _ := hf.opd hy
  have h3 : s[i]? = some (s[i]'hi) := by simp [hi]
  simp [execOp, h1, h2, Instr.index, asIntOf, run_underlying ht.u, h3]
theorem VOp.u8Sub {t t' : TypeId} {x y : Operand} {i j : Int} (hx : opd φ x = some (vu8 i)) (hy : opd φ y = some (vu8 j)) : VOp P n φ S ⟨d, .binOp .sub t x y t', ty, ps, af, g⟩ (vu8 ((i - j) % 256)) := by
  refine ⟨fun c a hf hs => ⟨.int .u8 ((i - j) % 256), fun w' hw' => ?_, rfl⟩⟩
  have h1 : a.eval x = _ := hf.opd hx
  have h2 : a.eval y = _ := hf.opd hy
  have e : IntKind.u8.wrap (i - j) = (i - j) % 256 := by simp [IntKind.wrap, IntKind.bits, IntKind.signed]
  simp [execOp, h1, h2, binOp, eqGuard, Op.intArith, e]
end
end Go.Proofs.YtemfpennomelaaaDoor
