/- Function values that hold addresses: made, and called by contract. Proved for every program P; no conditions. -/
import Derived.Test.YtodlpdedldhebaaCoreQ
namespace Go.Proofs.Ytodlpdedldhebaa
open Go
set_option linter.unusedVariables false

/-- operands of known values -/
inductive CapLit (φ : Slots) : List Operand → List Value → Prop
  | nil : CapLit φ [] []
  | cons {x : Operand} {v : Value} {xs : List Operand} {vs : List Value} : opd φ x = some (vlit v) → CapLit φ xs vs → CapLit φ (x :: xs) (v :: vs)
theorem CapLit.eval {φ : Slots} {c : Ctx} {n : Nat} {a : Act} (hf : FH c n φ a) {xs : List Operand} {vs : List Value} (h : CapLit φ xs vs) : xs.map a.eval = vs := by
  induction h with
  | nil => rfl
  | cons hx _ ih => rw [List.map_cons, ih]; have := hf.opd hx; cases this; rfl
section
variable {P : Program} {n : Nat} {φ : Slots} {S : List HP} {d : Option Tmp} {ty : TypeId} {ps : String} {af : Array Edge} {g : Option (Nat × Bool)}
theorem VOp.makeFunc {f : FuncId} {xs : List Operand} {vs : List Value} (h : CapLit φ xs vs) : VOp P n φ S ⟨d, .makeFunc (.func f) #[] xs.toArray, ty, ps, af, g⟩ (vlit (.func (.func f) #[] vs.toArray)) := by
  refine ⟨fun c a hf hs => ⟨.func (.func f) #[] vs.toArray, fun w' hw' => ?_, rfl⟩⟩
  have := h.eval hf
  simp [execOp, Instr.makeFunc, this]
end
theorem Args.append {c : Ctx} {ps qs : List VP} {vs ws : List Value} (h : Args c ps vs) (k : Args c qs ws) : Args c (ps ++ qs) (vs ++ ws) := by
  induction h with
  | nil => exact k
  | cons hp _ ih => exact .cons hp ih
theorem Args.lits {c : Ctx} : ∀ vs : List Value, Args c (vs.map vlit) vs
  | [] => .nil
  | v :: vs => .cons rfl (Args.lits vs)
section
variable {P : Program} {n : Nat} {ops : Array Oper} {o : Oper} {l : List Oper} {K : Slots → List HP → Prop} {φ : Slots} {S : List HP}
/-- a call of a function value -/
theorem RH.callC {d t : Nat} {f : FuncId} {xs : List Operand} {ts : Array TypeId} {ps : List VP} {vs : List Value} {B S0 : List HP} {R : VP → List HP → Prop} (ho : o.op = .call ⟨.value (.tmp t), xs.toArray, ts⟩) (hd : o.dst = some d)
    (hn : Nat.blt d n = true) (hfn : φ.get t = some (vlit (.func (.func f) #[] vs.toArray))) (he : Enters P f) (ha : Opds φ xs ps) (hp : Pick S B S0) (hv : Spec P f (ps ++ vs.map vlit) B R) (h : ∀ r H, R r H → RL P n ops l K ((d, r) :: φ) (H ++ S0)) :
    RH P n ops o l K φ S := by
  have hv2 := Spec.some hp hv
  refine ⟨fun c a k hl hf hs => ?_⟩
  have hx := he ((xs.map a.eval) ++ vs).toArray c.w
  have hfv : a.eval (.tmp t) = .func (.func f) #[] vs.toArray := hf.slot t _ hfn
  unfold Oper.wp
  have e1 : (execOp a.eval o).run P c.w = (callFunc f ((xs.map a.eval) ++ vs).toArray).run P c.w := by
    simp [execOp, ho, resolve, hfv, Deferred.ofValue, invoke]
  rw [e1, hx, Oper.upon_enter]
  refine (hv2.run c ((xs.map a.eval) ++ vs) ((ha.args hf).append (Args.lits vs)) hs).mono fun e w' ⟨v, F', r, S', e2, hle, hr, hs', H, hR, e3⟩ => ?_
  subst e2; subst e3
  rw [hd]
  exact RL.le (c' := ⟨F', c.U, w'⟩) hle ((h r H hR).run ⟨F', c.U, w'⟩ _ k hl ((hf.le hle).put (Nat.blt_eq.mp hn) hr) hs')
end

section
variable {P : Program} {n : Nat} {φ : Slots} {S : List HP} {d : Option Tmp} {ty : TypeId} {ps : String} {af : Array Edge} {g : Option (Nat × Bool)}
/-- append of a frozen list to an array of the call's own -/
theorem EOp.appV {t t2 e e2 k k2 by' : Nat} {z : Value} [ht : IsSlM P t e k by' z] [h2 : IsSl P t2 e2 k2] {x y : Operand} {b len cap : Nat} {α : Type} {r : α → List VP} {xs ys : List α} {C : HP → List HP} [h1 : OneR r]
    (hx : opd φ x = some (vsb b len cap)) (hy : opd φ y = some (vsl k r ys)) (hp : Plc S (harr b k r xs (cap * k)) C) (hlen : len = xs.length) (hk : 0 < k)
    (hbound : (xs.length + ys.length) * by' ≤ 140737488355328) (h63 : xs.length + ys.length ≤ 140737488355328) :
    EOp P n φ S ⟨d, .call ⟨.builtin .append, #[x, y], #[t, t2]⟩, ty, ps, af, g⟩ (fun q S' => ∃ b' cap', q = vsb b' (xs.length + ys.length) cap' ∧ S' = C (harr b' k r (xs ++ ys) (cap' * k))) :=
  EOp.app hx hy hp hlen (fun c u _ h => Src.sl h hk (fun c v y p hp hv => h1.one c v y p hp hv)) hbound h63
end

section
variable {P : Program} {n : Nat} {φ : Slots} {S : List HP} {d : Option Tmp} {ty : TypeId} {ps : String} {af : Array Edge} {g : Option (Nat × Bool)}
/-- elements at numbers that are written in the program -/
theorem VOp.indexSl0 {t e k : Nat} [ht : IsSl P t e k] {x y : Operand} {α : Type} {r : α → List VP} {xs : List α} (hx : opd φ x = some (vsl k r xs)) (hy : opd φ y = some (vint 0)) (hi : 0 < xs.length) : VOp P n φ S ⟨d, .indexAddr t x y, ty, ps, af, g⟩ (vfp (r (xs[0]'hi))) :=
  VOp.indexSlN (i := 0) hx hy hi
theorem VOp.indexSl1 {t e k : Nat} [ht : IsSl P t e k] {x y : Operand} {α : Type} {r : α → List VP} {xs : List α} (hx : opd φ x = some (vsl k r xs)) (hy : opd φ y = some (vint 1)) (hi : 1 < xs.length) : VOp P n φ S ⟨d, .indexAddr t x y, ty, ps, af, g⟩ (vfp (r (xs[1]'hi))) :=
  VOp.indexSlN (i := 1) hx hy hi
theorem VOp.indexSl2 {t e k : Nat} [ht : IsSl P t e k] {x y : Operand} {α : Type} {r : α → List VP} {xs : List α} (hx : opd φ x = some (vsl k r xs)) (hy : opd φ y = some (vint 2)) (hi : 2 < xs.length) : VOp P n φ S ⟨d, .indexAddr t x y, ty, ps, af, g⟩ (vfp (r (xs[2]'hi))) :=
  VOp.indexSlN (i := 2) hx hy hi
end
end Go.Proofs.Ytodlpdedldhebaa
