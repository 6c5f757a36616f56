/- The rules on operations once more, as rules on the run. Proved for every program P; conditions: those of the rules. -/
import Derived.Test.YtpifgpciopfhjaaCoreN
namespace Go.Proofs.Ytpifgpciopfhjaa
open Go
set_option linter.unusedVariables false
section
variable {P : Program} {n : Nat} {ops : Array Oper} {ll : List Oper} {K : Slots → List HP → Prop} {φ : Slots} {S : List HP} {ty : TypeId} {ps : String} {af : Array Edge} {g : Option (Nat × Bool)}
theorem RH.move {x : Operand} {p : VP} {dd : Nat} (hn : Nat.blt dd n = true) (hx : opd φ x = some p) (hK : RL P n ops ll K ((dd, p) :: φ) S) :
    RH P n ops ⟨some dd, .move x, ty, ps, af, g⟩ ll K φ S := RH.value rfl hn (VOp.move hx) hK
theorem RH.assign {x : Operand} {p : VP} {dd : Nat} (hn : Nat.blt dd n = true) (hx : opd φ x = some p) (hK : RL P n ops ll K ((dd, p) :: φ) S) :
    RH P n ops ⟨some dd, .assign x, ty, ps, af, g⟩ ll K φ S := RH.value rfl hn (VOp.assign hx) hK
theorem RH.pickT {x y z : Operand} {p : VP} {dd : Nat} (hn : Nat.blt dd n = true) (hx : opd φ x = some (vbool true)) (hy : opd φ y = some p) (hK : RL P n ops ll K ((dd, p) :: φ) S) :
    RH P n ops ⟨some dd, .pick x y z, ty, ps, af, g⟩ ll K φ S := RH.value rfl hn (VOp.pickT hx hy) hK
theorem RH.pickF {x y z : Operand} {p : VP} {dd : Nat} (hn : Nat.blt dd n = true) (hx : opd φ x = some (vbool false)) (hy : opd φ z = some p) (hK : RL P n ops ll K ((dd, p) :: φ) S) :
    RH P n ops ⟨some dd, .pick x y z, ty, ps, af, g⟩ ll K φ S := RH.value rfl hn (VOp.pickF hx hy) hK
theorem RH.add {t t' : TypeId} {x y : Operand} {i j : Int}  {dd : Nat} (hn : Nat.blt dd n = true) (hx : opd φ x = some (vint i)) (hy : opd φ y = some (vint j)) (h : InR (i + j)) (hK : RL P n ops ll K ((dd, (vint (i + j))) :: φ) S) :
    RH P n ops ⟨some dd, .binOp .add t x y t', ty, ps, af, g⟩ ll K φ S := RH.value rfl hn (VOp.add hx hy h) hK
theorem RH.sub {t t' : TypeId} {x y : Operand} {i j : Int}  {dd : Nat} (hn : Nat.blt dd n = true) (hx : opd φ x = some (vint i)) (hy : opd φ y = some (vint j)) (h : InR (i - j)) (hK : RL P n ops ll K ((dd, (vint (i - j))) :: φ) S) :
    RH P n ops ⟨some dd, .binOp .sub t x y t', ty, ps, af, g⟩ ll K φ S := RH.value rfl hn (VOp.sub hx hy h) hK
theorem RH.mul {t t' : TypeId} {x y : Operand} {i j : Int}  {dd : Nat} (hn : Nat.blt dd n = true) (hx : opd φ x = some (vint i)) (hy : opd φ y = some (vint j)) (h : InR (i * j)) (hK : RL P n ops ll K ((dd, (vint (i * j))) :: φ) S) :
    RH P n ops ⟨some dd, .binOp .mul t x y t', ty, ps, af, g⟩ ll K φ S := RH.value rfl hn (VOp.mul hx hy h) hK
theorem RH.quo {t t' : TypeId} {x y : Operand} {i j : Int}  {dd : Nat} (hn : Nat.blt dd n = true) (hx : opd φ x = some (vint i)) (hy : opd φ y = some (vint j)) (hi : 0 ≤ i) (hj : 0 < j) (h : InR i) (hK : RL P n ops ll K ((dd, (vint (i / j))) :: φ) S) :
    RH P n ops ⟨some dd, .binOp .quo t x y t', ty, ps, af, g⟩ ll K φ S := RH.value rfl hn (VOp.quo hx hy hi hj h) hK
theorem RH.rem {t t' : TypeId} {x y : Operand} {i j : Int}  {dd : Nat} (hn : Nat.blt dd n = true) (hx : opd φ x = some (vint i)) (hy : opd φ y = some (vint j)) (hi : 0 ≤ i) (hj : 0 < j) (hK : RL P n ops ll K ((dd, (vint (i % j))) :: φ) S) :
    RH P n ops ⟨some dd, .binOp .rem t x y t', ty, ps, af, g⟩ ll K φ S := RH.value rfl hn (VOp.rem hx hy hi hj) hK
theorem RH.lss {t t' : TypeId} {x y : Operand} {i j : Int}  {dd : Nat} (hn : Nat.blt dd n = true) (hx : opd φ x = some (vint i)) (hy : opd φ y = some (vint j)) (hK : RL P n ops ll K ((dd, (vbool (decide (i < j)))) :: φ) S) :
    RH P n ops ⟨some dd, .binOp .lss t x y t', ty, ps, af, g⟩ ll K φ S := RH.value rfl hn (VOp.lss hx hy) hK
theorem RH.leq {t t' : TypeId} {x y : Operand} {i j : Int}  {dd : Nat} (hn : Nat.blt dd n = true) (hx : opd φ x = some (vint i)) (hy : opd φ y = some (vint j)) (hK : RL P n ops ll K ((dd, (vbool (decide (i ≤ j)))) :: φ) S) :
    RH P n ops ⟨some dd, .binOp .leq t x y t', ty, ps, af, g⟩ ll K φ S := RH.value rfl hn (VOp.leq hx hy) hK
theorem RH.gtr {t t' : TypeId} {x y : Operand} {i j : Int}  {dd : Nat} (hn : Nat.blt dd n = true) (hx : opd φ x = some (vint i)) (hy : opd φ y = some (vint j)) (hK : RL P n ops ll K ((dd, (vbool (decide (j < i)))) :: φ) S) :
    RH P n ops ⟨some dd, .binOp .gtr t x y t', ty, ps, af, g⟩ ll K φ S := RH.value rfl hn (VOp.gtr hx hy) hK
theorem RH.geq {t t' : TypeId} {x y : Operand} {i j : Int}  {dd : Nat} (hn : Nat.blt dd n = true) (hx : opd φ x = some (vint i)) (hy : opd φ y = some (vint j)) (hK : RL P n ops ll K ((dd, (vbool (decide (j ≤ i)))) :: φ) S) :
    RH P n ops ⟨some dd, .binOp .geq t x y t', ty, ps, af, g⟩ ll K φ S := RH.value rfl hn (VOp.geq hx hy) hK
theorem RH.eql {t t' : TypeId} {x y : Operand} {i j : Int}  {dd : Nat} (hn : Nat.blt dd n = true) (hx : opd φ x = some (vint i)) (hy : opd φ y = some (vint j)) (hK : RL P n ops ll K ((dd, (vbool (decide (i = j)))) :: φ) S) :
    RH P n ops ⟨some dd, .binOp .eql t x y t', ty, ps, af, g⟩ ll K φ S := RH.value rfl hn (VOp.eql hx hy) hK
theorem RH.neq {t t' : TypeId} {x y : Operand} {i j : Int}  {dd : Nat} (hn : Nat.blt dd n = true) (hx : opd φ x = some (vint i)) (hy : opd φ y = some (vint j)) (hK : RL P n ops ll K ((dd, (vbool (decide (i ≠ j)))) :: φ) S) :
    RH P n ops ⟨some dd, .binOp .neq t x y t', ty, ps, af, g⟩ ll K φ S := RH.value rfl hn (VOp.neq hx hy) hK
theorem RH.beql {t t' : TypeId} {x y : Operand} {p q : Bool} [ht : IsBool P t] {dd : Nat} (hn : Nat.blt dd n = true) (hx : opd φ x = some (vbool p)) (hy : opd φ y = some (vbool q)) (hK : RL P n ops ll K ((dd, (vbool (p == q))) :: φ) S) :
    RH P n ops ⟨some dd, .binOp .eql t x y t', ty, ps, af, g⟩ ll K φ S := RH.value rfl hn (VOp.beql hx hy) hK
theorem RH.bneq {t t' : TypeId} {x y : Operand} {p q : Bool} [ht : IsBool P t] {dd : Nat} (hn : Nat.blt dd n = true) (hx : opd φ x = some (vbool p)) (hy : opd φ y = some (vbool q)) (hK : RL P n ops ll K ((dd, (vbool (p != q))) :: φ) S) :
    RH P n ops ⟨some dd, .binOp .neq t x y t', ty, ps, af, g⟩ ll K φ S := RH.value rfl hn (VOp.bneq hx hy) hK
theorem RH.eqNil {t t' : TypeId} {x y : Operand} {e k' : TypeId} {b : Option Addr} {lo m : Nat} [ht : IsSl P t e k'] {dd : Nat} (hn : Nat.blt dd n = true) (hx : opd φ x = some (vlit (.slice b lo m))) (hy : opd φ y = some (vlit (.slice none 0 0))) (hK : RL P n ops ll K ((dd, (vbool b.isNone)) :: φ) S) :
    RH P n ops ⟨some dd, .binOp .eql t x y t', ty, ps, af, g⟩ ll K φ S := RH.value rfl hn (VOp.eqNil hx hy) hK
theorem RH.neNil {t t' : TypeId} {x y : Operand} {e k' : TypeId} {b : Option Addr} {lo m : Nat} [ht : IsSl P t e k'] {dd : Nat} (hn : Nat.blt dd n = true) (hx : opd φ x = some (vlit (.slice b lo m))) (hy : opd φ y = some (vlit (.slice none 0 0))) (hK : RL P n ops ll K ((dd, (vbool (!b.isNone))) :: φ) S) :
    RH P n ops ⟨some dd, .binOp .neq t x y t', ty, ps, af, g⟩ ll K φ S := RH.value rfl hn (VOp.neNil hx hy) hK
theorem RH.not {t : TypeId} {x : Operand} {b : Bool} {dd : Nat} (hn : Nat.blt dd n = true) (hx : opd φ x = some (vbool b)) (hK : RL P n ops ll K ((dd, (vbool (!b))) :: φ) S) :
    RH P n ops ⟨some dd, .unOp .not t x, ty, ps, af, g⟩ ll K φ S := RH.value rfl hn (VOp.not hx) hK
theorem RH.neg {t : TypeId} {x : Operand} {i : Int} {dd : Nat} (hn : Nat.blt dd n = true) (hx : opd φ x = some (vint i)) (h : InR (-i)) (hK : RL P n ops ll K ((dd, (vint (-i))) :: φ) S) :
    RH P n ops ⟨some dd, .unOp .neg t x, ty, ps, af, g⟩ ll K φ S := RH.value rfl hn (VOp.neg hx h) hK
theorem RH.extract {x : Operand} {i : Nat} {qs : List VP} {p : VP} {dd : Nat} (hn : Nat.blt dd n = true) (hx : opd φ x = some (vtup qs)) (hi : qs[i]? = some p) (hK : RL P n ops ll K ((dd, p) :: φ) S) :
    RH P n ops ⟨some dd, .extract x i, ty, ps, af, g⟩ ll K φ S := RH.value rfl hn (VOp.extract hx hi) hK
theorem RH.indexSl {t e k : Nat} [ht : IsSl P t e k] {α : Type} {r : α → List VP} {xs : List α} {x y : Operand} {i : Int} {dd : Nat} (hn : Nat.blt dd n = true) (hx : opd φ x = some (vsl k r xs)) (hy : opd φ y = some (vint i)) (h0 : 0 ≤ i) (hi : i.toNat < xs.length) (hK : RL P n ops ll K ((dd, (vfp (r (xs[i.toNat]'hi)))) :: φ) S) :
    RH P n ops ⟨some dd, .indexAddr t x y, ty, ps, af, g⟩ ll K φ S := RH.value rfl hn (VOp.indexSl hx hy h0 hi) hK
theorem RH.indexSlN {t e k : Nat} [ht : IsSl P t e k] {α : Type} {r : α → List VP} {xs : List α} {x y : Operand} {i : Nat} {dd : Nat} (hn : Nat.blt dd n = true) (hx : opd φ x = some (vsl k r xs)) (hy : opd φ y = some (vint (i : Int))) (hi : i < xs.length) (hK : RL P n ops ll K ((dd, (vfp (r (xs[i]'hi)))) :: φ) S) :
    RH P n ops ⟨some dd, .indexAddr t x y, ty, ps, af, g⟩ ll K φ S := RH.value rfl hn (VOp.indexSlN hx hy hi) hK
theorem RH.indexOwn {t e k : Nat} [ht : IsSl P t e k] {x y : Operand} {b len cap : Nat} {i : Int} {dd : Nat} (hn : Nat.blt dd n = true) (hx : opd φ x = some (vsb b len cap)) (hy : opd φ y = some (vint i)) (h0 : 0 ≤ i) (hi : i.toNat < len) (hK : RL P n ops ll K ((dd, (velt b k i.toNat 0)) :: φ) S) :
    RH P n ops ⟨some dd, .indexAddr t x y, ty, ps, af, g⟩ ll K φ S := RH.value rfl hn (VOp.indexOwn hx hy h0 hi) hK
theorem RH.indexOwnN {t e k : Nat} [ht : IsSl P t e k] {x y : Operand} {b len cap : Nat} {i : Nat} {dd : Nat} (hn : Nat.blt dd n = true) (hx : opd φ x = some (vsb b len cap)) (hy : opd φ y = some (vint (i : Int))) (hi : i < len) (hK : RL P n ops ll K ((dd, (velt b k i 0)) :: φ) S) :
    RH P n ops ⟨some dd, .indexAddr t x y, ty, ps, af, g⟩ ll K φ S := RH.value rfl hn (VOp.indexOwnN hx hy hi) hK
theorem RH.fieldFp {t i o k : Nat} [ht : IsFld P t i o k] {x : Operand} {qs : List VP} {dd : Nat} (hn : Nat.blt dd n = true) (hx : opd φ x = some (vfp qs)) (hK : RL P n ops ll K ((dd, (vfp ((qs.drop o).take k))) :: φ) S) :
    RH P n ops ⟨some dd, .fieldAddr t x i, ty, ps, af, g⟩ ll K φ S := RH.value rfl hn (VOp.fieldFp hx) hK
theorem RH.fieldPtr {t i o k : Nat} [ht : IsFld P t i o k] {x : Operand} {b o' : Nat} {dd : Nat} (hn : Nat.blt dd n = true) (hx : opd φ x = some (vptr b o')) (hK : RL P n ops ll K ((dd, (vptr b (o' + o))) :: φ) S) :
    RH P n ops ⟨some dd, .fieldAddr t x i, ty, ps, af, g⟩ ll K φ S := RH.value rfl hn (VOp.fieldPtr hx) hK
theorem RH.fieldElt {t i o k : Nat} [ht : IsFld P t i o k] {x : Operand} {b k' j o' : Nat} {dd : Nat} (hn : Nat.blt dd n = true) (hx : opd φ x = some (velt b k' j o')) (hK : RL P n ops ll K ((dd, (velt b k' j (o' + o))) :: φ) S) :
    RH P n ops ⟨some dd, .fieldAddr t x i, ty, ps, af, g⟩ ll K φ S := RH.value rfl hn (VOp.fieldElt hx) hK
theorem RH.loadFp {t : Nat} {x : Operand} {q : VP} {k : Nat} [ht : IsVar P t false k] {dd : Nat} (hn : Nat.blt dd n = true) (hx : opd φ x = some (vfp [q])) (hK : RL P n ops ll K ((dd, q) :: φ) S) :
    RH P n ops ⟨some dd, .load t x, ty, ps, af, g⟩ ll K φ S := RH.value rfl hn (VOp.loadFp hx) hK
theorem RH.loadFpAgg {t : Nat} {x : Operand} {qs : List VP} {k : Nat} [ht : IsVar P t true k] {dd : Nat} (hn : Nat.blt dd n = true) (hx : opd φ x = some (vfp qs)) (hl : qs.length = k) (hK : RL P n ops ll K ((dd, (vagg qs)) :: φ) S) :
    RH P n ops ⟨some dd, .load t x, ty, ps, af, g⟩ ll K φ S := RH.value rfl hn (VOp.loadFpAgg hx hl) hK
theorem RH.loadPtr {t : Nat} {x : Operand} {b o : Nat} {qs : List VP} {q : VP} {k : Nat} [ht : IsVar P t false k] {dd : Nat} (hn : Nat.blt dd n = true) (hx : opd φ x = some (vptr b o)) (hh : Has S (hcells b qs)) (hq : qs[o]? = some q) (hK : RL P n ops ll K ((dd, q) :: φ) S) :
    RH P n ops ⟨some dd, .load t x, ty, ps, af, g⟩ ll K φ S := RH.value rfl hn (VOp.loadPtr hx hh hq) hK
theorem RH.loadPtrAgg {t : Nat} {x : Operand} {b o : Nat} {qs : List VP} {k : Nat} [ht : IsVar P t true k] {dd : Nat} (hn : Nat.blt dd n = true) (hx : opd φ x = some (vptr b o)) (hh : Has S (hcells b qs)) (hl : ((qs.drop o).take k).length = k) (hK : RL P n ops ll K ((dd, (vagg ((qs.drop o).take k))) :: φ) S) :
    RH P n ops ⟨some dd, .load t x, ty, ps, af, g⟩ ll K φ S := RH.value rfl hn (VOp.loadPtrAgg hx hh hl) hK
theorem RH.loadElt {t : Nat} {x : Operand} {b k i o : Nat} {α : Type} {r : α → List VP} {xs : List α} {sz : Nat} {q : VP} {k' : Nat} [ht : IsVar P t false k'] {dd : Nat} (hn : Nat.blt dd n = true) (hx : opd φ x = some (velt b k i o)) (hh : Has S (harr b k r xs sz)) (hi : i < xs.length) (hq : (r (xs[i]'hi))[o]? = some q) (hK : RL P n ops ll K ((dd, q) :: φ) S) :
    RH P n ops ⟨some dd, .load t x, ty, ps, af, g⟩ ll K φ S := RH.value rfl hn (VOp.loadElt hx hh hi hq) hK
theorem RH.loadEltAgg {t : Nat} {x : Operand} {b k i : Nat} {α : Type} {r : α → List VP} {xs : List α} {sz : Nat} {k' : Nat} [ht : IsVar P t true k'] {dd : Nat} (hn : Nat.blt dd n = true) (hx : opd φ x = some (velt b k i 0)) (hh : Has S (harr b k r xs sz)) (hi : i < xs.length) (hk : k = k') (hK : RL P n ops ll K ((dd, (vagg (r (xs[i]'hi)))) :: φ) S) :
    RH P n ops ⟨some dd, .load t x, ty, ps, af, g⟩ ll K φ S := RH.value rfl hn (VOp.loadEltAgg hx hh hi hk) hK
theorem RH.lenSl {t e k' : TypeId} [ht : IsSl P t e k'] {k : Nat} {α : Type} {r : α → List VP} {xs : List α} {x : Operand} {dd : Nat} (hn : Nat.blt dd n = true) (hx : opd φ x = some (vsl k r xs)) (hK : RL P n ops ll K ((dd, (vint (xs.length : Int))) :: φ) S) :
    RH P n ops ⟨some dd, .call ⟨.builtin .len, #[x], #[t]⟩, ty, ps, af, g⟩ ll K φ S := RH.value rfl hn (VOp.lenSl hx) hK
theorem RH.lenOwn {t e k' : TypeId} [ht : IsSl P t e k'] {ao : Option Addr} {len cap : Nat} {x : Operand} {dd : Nat} (hn : Nat.blt dd n = true) (hx : opd φ x = some (vlit (.slice ao len cap))) (hK : RL P n ops ll K ((dd, (vint (len : Int))) :: φ) S) :
    RH P n ops ⟨some dd, .call ⟨.builtin .len, #[x], #[t]⟩, ty, ps, af, g⟩ ll K φ S := RH.value rfl hn (VOp.lenOwn hx) hK
theorem RH.lenStr {t : TypeId} [ht : IsStr P t] {s : ByteArray} {x : Operand} {dd : Nat} (hn : Nat.blt dd n = true) (hx : opd φ x = some (vlit (.string s))) (hK : RL P n ops ll K ((dd, (vint (s.size : Int))) :: φ) S) :
    RH P n ops ⟨some dd, .call ⟨.builtin .len, #[x], #[t]⟩, ty, ps, af, g⟩ ll K φ S := RH.value rfl hn (VOp.lenStr hx) hK
theorem RH.nilCheck {x : Operand} {a0 : Addr} {dd : Nat} (hn : Nat.blt dd n = true) (hx : opd φ x = some (vlit (.pointer (some a0)))) (hK : RL P n ops ll K ((dd, (vlit (.pointer (some a0)))) :: φ) S) :
    RH P n ops ⟨some dd, .nilCheck x, ty, ps, af, g⟩ ll K φ S := RH.value rfl hn (VOp.nilCheck hx) hK
theorem RH.boxOne {t : TypeId} {x : Operand} {p : VP} [One p] {dd : Nat} (hn : Nat.blt dd n = true) (hx : opd φ x = some p) (hK : ∀ rr SS, (fun r S' => ∃ b, r = vptr b 0 ∧ S' = hcells b [p] :: S) rr SS → RL P n ops ll K ((dd, rr) :: φ) SS) :
    RH P n ops ⟨some dd, .box t x, ty, ps, af, g⟩ ll K φ S := RH.eff rfl hn (EOp.boxOne hx) hK
theorem RH.boxAgg {t : TypeId} {x : Operand} {qs : List VP} {dd : Nat} (hn : Nat.blt dd n = true) (hx : opd φ x = some (vagg qs)) (hK : ∀ rr SS, (fun r S' => ∃ b, r = vptr b 0 ∧ S' = hcells b qs :: S) rr SS → RL P n ops ll K ((dd, rr) :: φ) SS) :
    RH P n ops ⟨some dd, .box t x, ty, ps, af, g⟩ ll K φ S := RH.eff rfl hn (EOp.boxAgg hx) hK
theorem RH.alloc {t : TypeId} {qs : List VP} [hz : IsNew P t qs] {dd : Nat} (hn : Nat.blt dd n = true)  (hK : ∀ rr SS, (fun r S' => ∃ b, r = vptr b 0 ∧ S' = hcells b qs :: S) rr SS → RL P n ops ll K ((dd, rr) :: φ) SS) :
    RH P n ops ⟨some dd, .alloc t, ty, ps, af, g⟩ ll K φ S := RH.eff rfl hn (EOp.alloc ) hK
theorem RH.storePtr {t : TypeId} {x y : Operand} {b o : Nat} {gg : Bool} {qs : List VP} {p : VP} {C : HP → List HP} [One p] [ht : IsVar P t gg 1] (hx : opd φ x = some (vptr b o)) (hy : opd φ y = some p) (u' : Plc S (hcells b qs) C) (ho : Nat.blt o qs.length = true) (hK : RL P n ops ll K φ (C (hcells b (qs.set o p)))) :
    RH P n ops ⟨none, .store t x y, ty, ps, af, g⟩ ll K φ S := RH.put rfl (UOp.storePtr hx hy u' ho) hK
theorem RH.storePtrAgg {t : TypeId} {x y : Operand} {b k : Nat} {gg : Bool} {qs rs : List VP} {C : HP → List HP} [ht : IsVar P t gg k] [h1s : Ones rs] (hx : opd φ x = some (vptr b 0)) (hy : opd φ y = some (vagg rs)) (u' : Plc S (hcells b qs) C) (hl1 : qs.length = k) (hl2 : rs.length = k) (hK : RL P n ops ll K φ (C (hcells b rs))) :
    RH P n ops ⟨none, .store t x y, ty, ps, af, g⟩ ll K φ S := RH.put rfl (UOp.storePtrAgg hx hy u' hl1 hl2) hK
theorem RH.storeElt {t : TypeId} {x y : Operand} {b i : Nat} {gg : Bool} {α : Type} {r : α → List VP} {xs : List α} {sz : Nat} {z : α} {p : VP} {C : HP → List HP} [One p] [ht : IsVar P t gg 1] (hx : opd φ x = some (velt b 1 i 0)) (hy : opd φ y = some p) (u' : Plc S (harr b 1 r xs sz) C) (hi : i < xs.length) (hz : r z = [p]) (hK : RL P n ops ll K φ (C (harr b 1 r (xs.set i z) sz))) :
    RH P n ops ⟨none, .store t x y, ty, ps, af, g⟩ ll K φ S := RH.put rfl (UOp.storeElt hx hy u' hi hz) hK
theorem RH.make {t e k by' : Nat} {z : Value} [ht : IsSlM P t e k by' z] {x y : Operand} {l m : Nat} {α : Type} {dd : Nat} (hn : Nat.blt dd n = true) (r : α → List VP) (x0 : α) (hz : ∀ c, VPs c (r x0) z.cells.toList) (hx : opd φ x = some (vint (l : Int))) (hy : opd φ y = some (vint (m : Int))) (hlm : l ≤ m) (hb : by' * m ≤ 140737488355328) (hm : m ≤ 140737488355328) (hK : ∀ rr SS, (fun q S' => ∃ b, q = vsb b l m ∧ S' = harr b k r (List.replicate m x0) (m * k) :: S) rr SS → RL P n ops ll K ((dd, rr) :: φ) SS) :
    RH P n ops ⟨some dd, .makeSlice t x y, ty, ps, af, g⟩ ll K φ S := RH.eff rfl hn (EOp.make r x0 hz hx hy hlm hb hm) hK
theorem RH.app {t t2 e e2 k k2 by' : Nat} {z : Value} [ht : IsSlM P t e k by' z] [h2 : IsSl P t2 e2 k2] {x y : Operand} {b len cap : Nat} {α : Type} {r : α → List VP} {xs ys : List α} {C : HP → List HP} {q : VP} {dd : Nat} (hn : Nat.blt dd n = true) (hx : opd φ x = some (vsb b len cap)) (hy : opd φ y = some q) (hp : Plc S (harr b k r xs (cap * k)) C) (hlen : len = xs.length) (hsrc : ∀ c u, SH c S → q.p c u → ∃ vs, Src P k c.w u ys.length vs ∧ ∀ j y, ys[j]? = some y → (r y).length = k ∧ ∀ o p, (r y)[o]? = some p → ∃ v, vs[j * k + o]? = some v ∧ p.p c v) (hbound : (xs.length + ys.length) * by' ≤ 140737488355328) (h63 : xs.length + ys.length ≤ 140737488355328) (hK : ∀ rr SS, (fun q S' => ∃ b' cap', q = vsb b' (xs.length + ys.length) cap' ∧ S' = C (harr b' k r (xs ++ ys) (cap' * k))) rr SS → RL P n ops ll K ((dd, rr) :: φ) SS) :
    RH P n ops ⟨some dd, .call ⟨.builtin .append, #[x, y], #[t, t2]⟩, ty, ps, af, g⟩ ll K φ S := RH.eff rfl hn (EOp.app hx hy hp hlen hsrc hbound h63) hK
theorem RH.build {t : TypeId} {pl : List (Nat × Nat)} {qs qs' : List VP} {lp : List (Nat × Operand)} [hs : IsStruct P t pl] [hz : IsNew P t qs] {dd : Nat} (hn : Nat.blt dd n = true) (hp : Parts φ pl qs lp qs') (hK : RL P n ops ll K ((dd, (vagg qs')) :: φ) S) :
    RH P n ops ⟨some dd, .build t lp.toArray, ty, ps, af, g⟩ ll K φ S := RH.value rfl hn (VOp.build hp) hK
theorem RH.lenH {t e k' : TypeId} [ht : IsSl P t e k'] {α : Type} {tr : TR α} {v : Value} {xs : List α} {x : Operand} {dd : Nat} (hn : Nat.blt dd n = true) (hx : opd φ x = some (vlit v)) (hh : Has S (hsl tr v xs)) (hK : RL P n ops ll K ((dd, (vint (xs.length : Int))) :: φ) S) :
    RH P n ops ⟨some dd, .call ⟨.builtin .len, #[x], #[t]⟩, ty, ps, af, g⟩ ll K φ S := RH.value rfl hn (VOp.lenH hx hh) hK
theorem RH.indexH {t e k : Nat} [ht : IsSl P t e k] {α : Type} {tr : TR α} {v : Value} {xs : List α} {x y : Operand} {i : Int} {dd : Nat} (hn : Nat.blt dd n = true) (hx : opd φ x = some (vlit v)) (hh : Has S (hsl tr v xs)) (hy : opd φ y = some (vint i)) (h0 : 0 ≤ i) (hi : i.toNat < xs.length) (hK : RL P n ops ll K ((dd, (vep v k i.toNat 0)) :: φ) S) :
    RH P n ops ⟨some dd, .indexAddr t x y, ty, ps, af, g⟩ ll K φ S := RH.value rfl hn (VOp.indexH hx hh hy h0 hi) hK
theorem RH.indexHN {t e k : Nat} [ht : IsSl P t e k] {α : Type} {tr : TR α} {v : Value} {xs : List α} {x y : Operand} {i : Nat} {dd : Nat} (hn : Nat.blt dd n = true) (hx : opd φ x = some (vlit v)) (hh : Has S (hsl tr v xs)) (hy : opd φ y = some (vint (i : Int))) (hi : i < xs.length) (hK : RL P n ops ll K ((dd, (vep v k i 0)) :: φ) S) :
    RH P n ops ⟨some dd, .indexAddr t x y, ty, ps, af, g⟩ ll K φ S := RH.value rfl hn (VOp.indexHN hx hh hy hi) hK
theorem RH.loadH {t : Nat} {x : Operand} {α : Type} {rv : α → Value} {h1 : ∀ x, (rv x).oneCell' = true} {v : Value} {xs : List α} {i : Nat} {k' : Nat} [ht : IsVar P t false k'] {dd : Nat} (hn : Nat.blt dd n = true) (hx : opd φ x = some (vep v 1 i 0)) (hh : Has S (hsl (tVal rv h1) v xs)) (hi : i < xs.length) (hK : RL P n ops ll K ((dd, (vlit (rv (xs[i]'hi)))) :: φ) S) :
    RH P n ops ⟨some dd, .load t x, ty, ps, af, g⟩ ll K φ S := RH.value rfl hn (VOp.loadH hx hh hi) hK
theorem RH.storeH {t : TypeId} {x y : Operand} {gg : Bool} {α : Type} {rv : α → Value} {ho : ∀ x, (rv x).oneCell' = true} {v : Value} {xs : List α} {i : Nat} {z : α} {C : HP → List HP} [ht : IsVar P t gg 1] (hx : opd φ x = some (vep v 1 i 0)) (hy : opd φ y = some (vlit (rv z))) (u' : Plc S (hsl (tVal rv ho) v xs) C) (hi : i < xs.length) (hK : RL P n ops ll K φ (C (hsl (tVal rv ho) v (xs.set i z)))) :
    RH P n ops ⟨none, .store t x y, ty, ps, af, g⟩ ll K φ S := RH.put rfl (UOp.storeH hx hy u' hi) hK
theorem RH.loadHole {t : Nat} {x : Operand} {α : Type} {tr : TR α} {v : Value} {xs : List α} {i o : Nat} {us : List Value} {u : Value} {k k' : Nat} [ht : IsVar P t false k'] {dd : Nat} (hn : Nat.blt dd n = true) (hx : opd φ x = some (vep v k i o)) (hh : Has S (hsl (tHole tr) v ((xs.map .inl).set i (.inr us)))) (hk : tr.k = k) (hi : i < xs.length) (hu : us[o]? = some u) (hK : RL P n ops ll K ((dd, (vlit u)) :: φ) S) :
    RH P n ops ⟨some dd, .load t x, ty, ps, af, g⟩ ll K φ S := RH.value rfl hn (VOp.loadHole hx hh hk hi hu) hK
theorem RH.appH {t t2 e e2 k k2 by' : Nat} {z : Value} [ht : IsSlM P t e k by' z] [h2 : IsSl P t2 e2 k2] {x y : Operand} {α : Type} {tr : TR α} {v : Value} {xs : List α} {b2 m2 sz2 : Nat} {us : List Value} {el : α} {S1 : List HP} {dd : Nat} (hn : Nat.blt dd n = true) (hx : opd φ x = some (vlit v)) (hy : opd φ y = some (vsb b2 1 m2)) (hsrc : Has S (harr b2 k (List.map vlit) [us] sz2)) (hp : Pick S [hel tr el us, hsl tr v xs] S1) (hk : tr.k = k) (hbound : (xs.length + 1) * by' ≤ 140737488355328) (h63 : xs.length + 1 ≤ 140737488355328) (hK : ∀ rr SS, (fun q S' => ∃ v', q = vlit v' ∧ S' = hsl tr v' (xs ++ [el]) :: S1) rr SS → RL P n ops ll K ((dd, rr) :: φ) SS) :
    RH P n ops ⟨some dd, .call ⟨.builtin .append, #[x, y], #[t, t2]⟩, ty, ps, af, g⟩ ll K φ S := RH.eff rfl hn (EOp.appH hx hy hsrc hp hk hbound h63) hK
theorem RH.appR {t t2 e e2 k2 by' : Nat} {z : Value} [ht : IsSlM P t e 1 by' z] [h2 : IsSl P t2 e2 k2] {x y : Operand} {α : Type} {tr : TR α} {v v1 : Value} {xs : List (List α)} {el : List α} {b2 m2 sz2 : Nat} {S1 : List HP} {dd : Nat} (hn : Nat.blt dd n = true) (hx : opd φ x = some (vlit v)) (hy : opd φ y = some (vsb b2 1 m2)) (hp : Pick S [harr b2 1 (List.map vlit) [[v1]] sz2, hsl tr v1 el, hsl (tS tr) v xs] S1) (hbound : (xs.length + 1) * by' ≤ 140737488355328) (h63 : xs.length + 1 ≤ 140737488355328) (hK : ∀ rr SS, (fun q S' => ∃ s : Sv, q = vlit (vsv s) ∧ S' = hsl (tS tr) (vsv s) (xs ++ [el]) :: S1) rr SS → RL P n ops ll K ((dd, rr) :: φ) SS) :
    RH P n ops ⟨some dd, .call ⟨.builtin .append, #[x, y], #[t, t2]⟩, ty, ps, af, g⟩ ll K φ S := RH.eff rfl hn (EOp.appR hx hy hp hbound h63) hK
theorem RH.appRI {t t2 e e2 k2 by' : Nat} {z : Value} [ht : IsSlM P t e 1 by' z] [h2 : IsSl P t2 e2 k2] {x y : Operand} {v : Value} {xs : List (List Int)} {el : List Int} {b1 b2 l1 c1 m2 sz2 : Nat} {S1 : List HP} {dd : Nat} (hn : Nat.blt dd n = true) (hx : opd φ x = some (vlit v)) (hy : opd φ y = some (vsb b2 1 m2)) (hp : Pick S [harr b2 1 (List.map vlit) [[.slice (some ⟨b1, 0, none⟩) l1 c1]] sz2, harr b1 1 (fun x : Int => [vint x]) el (c1 * 1), hsl (tS tInt) v xs] S1) (hl : l1 = el.length) (hbound : (xs.length + 1) * by' ≤ 140737488355328) (h63 : xs.length + 1 ≤ 140737488355328) (hK : ∀ rr SS, (fun q S' => ∃ s : Sv, q = vlit (vsv s) ∧ S' = hsl (tS tInt) (vsv s) (xs ++ [el]) :: S1) rr SS → RL P n ops ll K ((dd, rr) :: φ) SS) :
    RH P n ops ⟨some dd, .call ⟨.builtin .append, #[x, y], #[t, t2]⟩, ty, ps, af, g⟩ ll K φ S := RH.eff rfl hn (EOp.appRI hx hy hp hl hbound h63) hK
theorem RH.loadPtrC {t : Nat} {x : Operand} {b o : Nat} {qs rs : List VP} {k : Nat} [ht : IsVar P t true k] {dd : Nat} (hn : Nat.blt dd n = true) (hx : opd φ x = some (vptr b o)) (hh : Has S (hcells b qs)) (hc : Cut qs o k rs) (hK : RL P n ops ll K ((dd, (vagg rs)) :: φ) S) :
    RH P n ops ⟨some dd, .load t x, ty, ps, af, g⟩ ll K φ S := RH.value rfl hn (VOp.loadPtrC hx hh hc) hK
theorem RH.fieldFpC {t i o k : Nat} [ht : IsFld P t i o k] {x : Operand} {qs rs : List VP} {dd : Nat} (hn : Nat.blt dd n = true) (hx : opd φ x = some (vfp qs)) (hc : Cut qs o k rs) (hK : RL P n ops ll K ((dd, (vfp rs)) :: φ) S) :
    RH P n ops ⟨some dd, .fieldAddr t x i, ty, ps, af, g⟩ ll K φ S := RH.value rfl hn (VOp.fieldFpC hx hc) hK
theorem RH.storeHI {t : TypeId} {x y : Operand} {gg : Bool} {v : Value} {xs : List Int} {i : Nat} {z : Int} {C : HP → List HP} [ht : IsVar P t gg 1] (hx : opd φ x = some (vep v 1 i 0)) (hy : opd φ y = some (vint z)) (u' : Plc S (hsl tInt v xs) C) (hi : i < xs.length) (hK : RL P n ops ll K φ (C (hsl tInt v (xs.set i z)))) :
    RH P n ops ⟨none, .store t x y, ty, ps, af, g⟩ ll K φ S := RH.put rfl (UOp.storeHI hx hy u' hi) hK
theorem RL.app0 (h : RL P n ops ll K φ S) : RL P n ops ll K φ ([] ++ S) := h
theorem RL.app1 {a : HP} (h : RL P n ops ll K φ (a :: S)) : RL P n ops ll K φ ([a] ++ S) := h
theorem RL.app2 {a b : HP} (h : RL P n ops ll K φ (a :: b :: S)) : RL P n ops ll K φ ([a, b] ++ S) := h
section
variable {W : Nat → Bool} {id m : Nat} {listed : Array Bool} {KD : Slots → List HP → Prop}
theorem RD.app0 (h : RD P n id ops W KD m listed φ S) : RD P n id ops W KD m listed φ ([] ++ S) := h
theorem RD.app1 {a : HP} (h : RD P n id ops W KD m listed φ (a :: S)) : RD P n id ops W KD m listed φ ([a] ++ S) := h
theorem RD.app2 {a b : HP} (h : RD P n id ops W KD m listed φ (a :: b :: S)) : RD P n id ops W KD m listed φ ([a, b] ++ S) := h
end

end
end Go.Proofs.Ytpifgpciopfhjaa
