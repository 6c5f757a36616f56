/- Numbers without sign and their halves; the rows of an owned list frozen; one frozen row of an owned list written. Proved for every program P; conditions: numbers that are not negative and below 2^62, indices in bounds. -/
import Derived.Test.YtodlpdedldhebaaCoreV
import Derived.Lib.ReflectliteSwap
import Derived.KernelRfl
namespace Go.Proofs.Ytodlpdedldhebaa
open Go
set_option linter.unusedVariables false
class IsU64 (P : Program) (t : TypeId) : Prop where
  u : P.underlying t = some (.int .u64)
section
variable {P : Program} {n : Nat} {φ : Slots} {S : List HP} {d : Option Tmp} {ty : TypeId} {ps : String} {af : Array Edge} {g : Option (Nat × Bool)}
theorem VOp.toU64 {t t2 : TypeId} [hs : IsI64 P t] [ht : IsU64 P t2] {x : Operand} {i : Int} (hx : opd φ x = some (vint i)) (h0 : 0 ≤ i) (hi : i ≤ 4611686018427387904) : VOp P n φ S ⟨d, .convert t t2 x, ty, ps, af, g⟩ (vlit (.int .u64 i)) := by
  refine ⟨fun c a hf hs' => ⟨.int .u64 i, fun w' hw' => ?_, rfl⟩⟩
  have h1 : a.eval x = _ := hf.opd hx
  have e : IntKind.u64.wrap i = i := by simp [IntKind.wrap, IntKind.bits, IntKind.signed]; omega
  simp [execOp, h1, convert, run_underlying hs.u, run_underlying ht.u, Conv.intToInt, e]
theorem VOp.toI64 {t t2 : TypeId} [hs : IsU64 P t] [ht : IsI64 P t2] {x : Operand} {i : Int} (hx : opd φ x = some (vlit (.int .u64 i))) (h0 : 0 ≤ i) (hi : i ≤ 4611686018427387904) : VOp P n φ S ⟨d, .convert t t2 x, ty, ps, af, g⟩ (vint i) := by
  refine ⟨fun c a hf hs' => ⟨.int .i64 i, fun w' hw' => ?_, rfl⟩⟩
  have h1 : a.eval x = _ := hf.opd hx
  have e : IntKind.i64.wrap i = i := by simp [IntKind.wrap, IntKind.bits, IntKind.signed]; omega
  simp [execOp, h1, convert, run_underlying hs.u, run_underlying ht.u, Conv.intToInt, e]
theorem VOp.half {t t' : TypeId} {x y : Operand} {i : Int} (hx : opd φ x = some (vlit (.int .u64 i))) (hy : opd φ y = some (vlit (.int .u64 1))) : VOp P n φ S ⟨d, .binOp .shr t x y t', ty, ps, af, g⟩ (vlit (.int .u64 (i / 2))) := by
  refine ⟨fun c a hf hs => ⟨.int .u64 (i / 2), fun w' hw' => ?_, rfl⟩⟩
  have h1 : a.eval x = _ := hf.opd hx
  have h2 : a.eval y = _ := hf.opd hy
  have e : i.fdiv (2 ^ (min (1 : Int).toNat IntKind.u64.bits)) = i / 2 := Int.fdiv_eq_ediv_of_nonneg i (by decide)
  simp only [execOp, h1, h2, eqGuard, binOp, Op.shift]
  simp [show ¬ ((1 : Int) < 0) by decide]
  exact e
end
/-! ### values that do not look at the world, ahead of operations that write -/
section
variable {P : Program} {n : Nat} {id : Nat} {ops : Array Oper} {W : Nat → Bool} {K : Slots → List HP → Prop} {m : Nat} {listed : Array Bool} {o : Oper} {φ : Slots} {S : List HP}
def YP (P : Program) (ops : Array Oper) (o : Oper) (v : Value) (a : Act) : Prop :=
  Region.wanted o (yielded ops a.tmps) = true ∧ ∀ w', (execOp a.eval o).run P w' = .ok (.value v) w'
theorem YP.op {i : Nat} {v : Value} {a : Act} {w : World} {Q : Exit → Act → World → Prop} {K : Act → World → Prop} (hi : ops[i]? = some o) (hy : YP P ops o v a) (h : K (a.put o.dst v) w) : wpOp P ops Q i K a w := by
  unfold wpOp
  simp only [hi]
  simp only [hy.1, if_true, Oper.wp, hy.2 w, Oper.upon]; exact .inl h
theorem YP.keep {v u : Value} {oi oj : Oper} {a : Act} (hy : YP P ops oi v a) (hsi : ∀ cs b, oi.op ≠ .select cs b) (h3 : ∀ d, oj.dst = some d → d ∉ oi.looksAt ops) : YP P ops oi v (a.put oj.dst u) := by
  unfold YP at *
  rw [execOp_put oi hsi a oj.dst u h3, wanted_put oi a oj.dst u h3]
  exact hy
theorem wpOp_putP {j : Nat} {oi oj : Oper} {v : Value} {QN : Act → World → Prop} (hj : ops[j]? = some oj) (hap : oi.apart ops oj = true) (hsi : ∀ cs b, oi.op ≠ .select cs b) (hsj : ∀ cs b, oj.op ≠ .select cs b)
    {K : Act → World → Prop} {a : Act} {w : World} (hy : YP P ops oi v a) (h : wpOp P ops (fun e a w => e = .normal ∧ QN a w) j (fun a' w' => K a' w') (a.put oi.dst v) w) :
    wpOp P ops (fun e a w => e = .normal ∧ QN a w) j (fun a' w' => YP P ops oi v a' ∧ K (a'.put oi.dst v) w') a w := by
  obtain ⟨h1, h2, h3⟩ := Oper.apart_spec hap
  unfold wpOp at *
  simp only [hj] at *
  rw [wanted_put oj a oi.dst v h1] at h
  split
  · rename_i hw
    simp only [hw, if_true] at h
    rcases h with h | ⟨_, a', w', h0, _⟩
    case inr => cases h0
    refine .inl ?_
    unfold Oper.wp at *
    rw [execOp_put oj hsj a oi.dst v h1] at h
    generalize (execOp a.eval oj).run P w = r at *
    cases r with
    | ok nx w' =>
      cases nx <;> simp only [Oper.upon] at h ⊢
      case value u => exact ⟨hy.keep hsi h3, by rw [← Act.put_comm a v u h2]; exact h⟩
      case skip => exact ⟨hy.keep hsi h3, by rw [← Act.put_comm a v undef h2]; exact h⟩
      case defer d =>
        refine ⟨(YP.keep (a := { a with defers := d :: a.defers }) hy hsi h3), ?_⟩
        rw [← Act.put_comm _ v undef h2, ← Act.put_defers]
        exact h
      case enter f args =>
        refine Calls.mono h fun e w'' he => ?_
        cases e with
        | returned u => exact ⟨hy.keep hsi h3, by rw [← Act.put_comm a v u h2]; exact he⟩
        | panicked c => cases he.1
        | outgrown => obtain ⟨_, _, h0, _⟩ := he; cases h0
      case row row args => exact Go.Rows.mono h fun u w'' he => ⟨hy.keep hsi h3, by rw [← Act.put_comm a v u h2]; exact he⟩
    | halt x w' =>
      cases x <;> simp only [Oper.upon] at h ⊢
      case panic u => cases h.1
  · rename_i hw
    simp only [hw] at h
    exact ⟨hy.keep hsi h3, by rw [← Act.put_comm a v undef h2]; exact h⟩

theorem wpAnyP_first {W D : Nat → Bool} {QN : Act → World → Prop} {i : Nat} {oi : Oper} {v : Value} (hi : ops[i]? = some oi) (hsel : ∀ (j : Nat) (o : Oper) cs b, ops[j]? = some o → o.op ≠ .select cs b)
    (hD : ∀ j oj, ops[j]? = some oj → D j = true → ∃ e ∈ oj.after, Region.binds .any e = true ∧ (e.on = i ∨ D e.on = true)) :
    ∀ (fuel : Nat) (listed : Array Bool) (a : Act) (w : World),
      (∀ j, D j = true → listed.getD j true = false) →
      (∀ j oj, ops[j]? = some oj → j ≠ i → listed.getD j true = false → D j = false → oi.apart ops oj = true) →
      i ∈ Region.ready .any ops listed → YP P ops oi v a →
      wpAnyM P ops W QN fuel (listed.setIfInBounds i true) (a.put oi.dst v) w → wpAnyM P ops W QN (fuel + 1) listed a w := by
  intro fuel
  induction fuel with
  | zero =>
    intro listed a w _ _ hr hy H
    refine ⟨fun h => (by rw [h] at hr; cases hr), fun j hj => ?_⟩
    by_cases hji : j = i
    · subst hji; exact hy.op hi ⟨.inr (.refl w), H⟩
    · have := ready_mono hj hji
      rw [H.1] at this
      cases this
  | succ fuel ih =>
    intro listed a w hlate hfree hr hy H
    refine ⟨fun h => (by rw [h] at hr; cases hr), fun j hj => ?_⟩
    by_cases hji : j = i
    · subst hji; exact hy.op hi ⟨.inr (.refl w), H⟩
    · have h1 := H.2 j (ready_mono hj hji)
      obtain ⟨hjun, oj, hoj, hall⟩ := mem_ready.1 hj
      have hDj : D j = false := by
        cases hd : D j with
        | false => rfl
        | true =>
          obtain ⟨e, he, hb, h2⟩ := hD j oj hoj hd
          have h1 := hall e he hb
          have h0 : listed.getD e.on true = false := by
            rcases h2 with h2 | h2
            · rw [h2]; exact (mem_ready.1 hr).1
            · exact hlate _ h2
          rcases Nat.lt_or_ge e.on listed.size with h' | h'
          · simp [h'] at h0 h1; rw [h0] at h1; cases h1
          · simp [Array.getElem?_eq_none h'] at h1
      have hfj := hfree j oj hoj hji hjun hDj
      have h2 := wpOp_putP hoj hfj (fun cs b => hsel i oi cs b hi) (fun cs b => hsel j oj cs b hoj) hy h1
      have hlate' : ∀ k, D k = true → (listed.setIfInBounds j true).getD k true = false := fun k hk => by
        have hjk : j ≠ k := fun e => by rw [e, hk] at hDj; cases hDj
        rw [getD_set_ne true hjk]; exact hlate k hk
      have hfree' : ∀ k ok, ops[k]? = some ok → k ≠ i → (listed.setIfInBounds j true).getD k true = false → D k = false → oi.apart ops ok = true := fun k ok hk hki hun hno => by
        refine hfree k ok hk hki ?_ hno
        by_cases hjk : j = k
        · subst hjk; exact hjun
        · rw [getD_set_ne true hjk] at hun; exact hun
      refine wpOp_mono (fun a' w' h3 => ⟨h3.2.1, ih (listed.setIfInBounds j true) a' w' hlate' hfree' (ready_mono hr (Ne.symm hji)) h3.1 ?_⟩) h2
      rw [Array.setIfInBounds_comm _ _ hji]
      exact h3.2.2

theorem RD.takeP {r : VP} {d : Nat} (i : Nat) (l' : Array Bool) (hi : ops[i]? = some o) (hl : listed.setIfInBounds i true = l') (hw : Wants n ops φ o true) (hd : o.dst = some d) (hn : Nat.blt d n = true) (hr : (Region.ready .any ops listed).contains i = true)
    (D : Array Bool) (hf : freeW ops (fun _ => false) D listed i = true) (hv : VOpQ P n φ S o r) (h : RD P n id ops W K m l' ((d, r) :: φ) S) : RD P n id ops W K (m + 1) listed φ S := by
  subst hl
  refine ⟨fun c a hfh hs => ?_⟩
  obtain ⟨v, he, hp⟩ := hv.run c a hfh hs
  have hsel := Region.noSelect_spec (ops := ops) (by simp only [freeW, Bool.and_eq_true] at hf; exact hf.1)
  obtain ⟨f1, f2, f3⟩ := freeW_spec hi (by simp only [freeW, hi, Bool.and_eq_true] at hf; exact Nat.le_of_ble_eq_true hf.2.1) hf
  refine wpAnyP_first hi hsel f1 m listed a c.w f2 (fun j oj q1 q2 q3 q4 => (f3 j oj q1 q2 q3 q4).1) (by simpa using hr) ⟨hw.wanted hfh, he⟩ ?_
  rw [hd]
  exact h.run c _ (hfh.put (Nat.blt_eq.mp hn) hp) hs
/-- a move ahead of operations that write -/
theorem RD.mv {d : Nat} {x : Operand} {r : VP} {ty : TypeId} {ps : String} {af : Array Edge} (i : Nat) (D l' : Array Bool) (hi : ops[i]? = some ⟨some d, .move x, ty, ps, af, none⟩ := by exact rfl) (hl : listed.setIfInBounds i true = l' := by kernel_rfl) (hn : Nat.blt d n = true := by exact rfl)
    (hr : (Region.ready .any ops listed).contains i = true := by kernel_rfl) (hf : freeW ops (fun _ => false) D listed i = true := by kernel_rfl) (hx : opd φ x = some r := by exact rfl)
    (hK : RD P n id ops W K m l' ((d, r) :: φ) S) : RD P n id ops W K (m + 1) listed φ S :=
  RD.takeP i l' hi hl (.none rfl) rfl hn hr D hf ⟨fun c a hf _ => ⟨a.eval x, fun w' => by simp [execOp], hf.opd hx⟩⟩ hK
/-- v[:i] of a frozen slice, ahead of operations that write -/
theorem RD.mvHi {d : Nat} {t e k : Nat} {ty : TypeId} {ps : String} {af : Array Edge} {x y : Operand} [ht : IsSl P t e k] {α : Type} {k' : Nat} {r : α → List VP} {s : Sv} {xs : List α} {j : Nat} (i : Nat) (D l' : Array Bool) (hi : ops[i]? = some ⟨some d, .slice t x none (some y) none, ty, ps, af, none⟩) (hl : listed.setIfInBounds i true = l') (hn : Nat.blt d n = true)
    (hr : (Region.ready .any ops listed).contains i = true) (hf : freeW ops (fun _ => false) D listed i = true) (hx : opd φ x = some (vlit (vsv s))) (hh : Has S (hfz k' r s xs)) (hy : opd φ y = some (vint (j : Int))) (hj : j ≤ xs.length)
    (hK : RD P n id ops W K m l' ((d, vsl k' r (xs.take j)) :: φ) S) : RD P n id ops W K (m + 1) listed φ S :=
  RD.takeP i l' hi hl (.none rfl) rfl hn hr D hf (VOpQ.sliceFzHi hx hh hy hj) hK
/-- v[i:] of a frozen slice, ahead of operations that write -/
theorem RD.mvLo {d : Nat} {t e k : Nat} {ty : TypeId} {ps : String} {af : Array Edge} {x y : Operand} [ht : IsSl P t e k] {α : Type} {r : α → List VP} {s : Sv} {xs : List α} {j : Nat} (i : Nat) (D l' : Array Bool) (hi : ops[i]? = some ⟨some d, .slice t x (some y) none none, ty, ps, af, none⟩) (hl : listed.setIfInBounds i true = l') (hn : Nat.blt d n = true)
    (hr : (Region.ready .any ops listed).contains i = true) (hf : freeW ops (fun _ => false) D listed i = true) (hx : opd φ x = some (vlit (vsv s))) (hh : Has S (hfz k r s xs)) (hy : opd φ y = some (vint (j : Int))) (hj : j ≤ xs.length)
    (hK : RD P n id ops W K m l' ((d, vsl k r (xs.drop j)) :: φ) S) : RD P n id ops W K (m + 1) listed φ S :=
  RD.takeP i l' hi hl (.none rfl) rfl hn hr D hf (VOpQ.sliceFzLo hx hh hy hj) hK
end
end Go.Proofs.Ytodlpdedldhebaa
