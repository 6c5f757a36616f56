/- A contract beside other owned memory; regions that draw their order: an operation that only yields a value is taken first, others come up alone. Proved for every program P that follows mixed orders; no other conditions. -/
import Derived.Test.YtemfpennomelaaaDoorCoreG
namespace Go.Proofs.YtemfpennomelaaaDoor
open Go
set_option linter.unusedVariables false

/-! ### the frame -/
theorem Args.mono {c c' : Ctx} (h : c.leV c') {ps : List VP} {vs : List Value} (k : Args c ps vs) : Args c' ps vs := by
  induction k with
  | nil => exact .nil
  | cons hp _ ih => exact .cons (VP.mono _ h hp) ih

/-- a contract over no owned memory, beside whatever is owned: what was there is as it was -/
theorem Spec.beside {P : Program} {f : FuncId} {ps : List VP} {R : VP → List HP → Prop} (h : Spec P f ps [] R) {S : List HP} {c : Ctx} {vs : List Value} (ha : Args c ps vs) (hs : SH c S) :
    Calls P f vs.toArray c.w fun e w' => ∃ v F' r H, e = .returned v ∧ c.le ⟨F', c.U, w'⟩ ∧ Same c.w w' ∧ r.p ⟨F', c.U, w'⟩ v ∧ SH ⟨F', c.U, w'⟩ (H ++ S) ∧ R r H := by
  obtain ⟨fs, hs⟩ := hs
  let c1 : Ctx := ⟨c.F, fun b => b < c.w.heap.size ∧ ¬ c.F b, c.w⟩
  have hv : c.leV c1 := ⟨fun _ h => h, fun _ _ => rfl⟩
  have hs1 : SH c1 [] := ⟨[], .nil, by simp, by simp, fun b hb => hb.elim (fun h => hs.fro b (.inl h)) (fun h => h.1), fun b hb hu => hu.2 hb⟩
  refine (h.run c1 vs (ha.mono hv) hs1).mono fun e w' ⟨v, F', r, H, he, hl, hr, ⟨gs, hg⟩, hR⟩ => ?_
  have hsame : Same c.w w' := ⟨fun b hb => by
    by_cases hF : c.F b
    · exact hl.heap b (.inl hF)
    · exact hl.heap b (.inr ⟨hb, hF⟩), hl.size⟩
  have hl' : c.le ⟨F', c.U, w'⟩ := ⟨hl.fr, rfl, fun b hb => hsame.heap b (hs.fro b hb), hl.size, hl.os, hl.tape, hl.output⟩
  have hv' : (⟨F', c1.U, w'⟩ : Ctx).leV ⟨F', c.U, w'⟩ := ⟨fun _ h => h, fun _ _ => rfl⟩
  have hnew : ∀ b ∈ gs.flatten, c.w.heap.size ≤ b := fun b hb => by
    have := hg.own b hb
    apply Classical.byContradiction
    intro hlt
    by_cases hF : c.F b
    · exact this.1 (hl.fr b hF)
    · exact this.2.1 ⟨by omega, hF⟩
  have hold : ∀ b ∈ fs.flatten, ¬ F' b := fun b hb hF' => hg.dis b hF' ⟨(hs.own b hb).2.2, (hs.own b hb).1⟩
  refine ⟨v, F', r, H, he, hl', hsame, r.mono hv' hr, ⟨gs ++ fs, ?_, ?_, ?_, ?_, ?_⟩, hR⟩
  · exact (hg.all.keep hv' fun _ _ => rfl).append (hs.all.keep hl'.v fun b hb => hsame.heap b (hs.own b hb).2.2)
  · rw [List.flatten_append, List.nodup_append]
    refine ⟨hg.nodup, hs.nodup, ?_⟩
    rintro x hx y hy rfl
    have := hnew x hx; have := (hs.own x hy).2.2; omega
  · intro b hb
    rw [List.flatten_append, List.mem_append] at hb
    rcases hb with hb | hb
    · refine ⟨(hg.own b hb).1, fun hu => ?_, (hg.own b hb).2.2⟩
      have := hs.fro b (.inr hu); have := hnew b hb; omega
    · exact ⟨hold b hb, (hs.own b hb).2.1, Nat.lt_of_lt_of_le (hs.own b hb).2.2 hl.size⟩
  · rintro b (hb | hb)
    · exact hg.fro b (.inl hb)
    · exact Nat.lt_of_lt_of_le (hs.fro b (.inr hb)) hl.size
  · intro b hb hu
    by_cases hF : c.F b
    · exact hs.dis b hF hu
    · exact hg.dis b hb ⟨hs.fro b (.inr hu), hF⟩

/-- a contract that leaves what was there as it was -/
structure SpecS (P : Program) (f : FuncId) (ps : List VP) (S : List HP) (R : VP → List HP → Prop) : Prop where
  run : ∀ c vs, Args c ps vs → SH c S → Calls P f vs.toArray c.w fun e w' =>
    ∃ v F' r S', e = .returned v ∧ c.le ⟨F', c.U, w'⟩ ∧ Same c.w w' ∧ r.p ⟨F', c.U, w'⟩ v ∧ SH ⟨F', c.U, w'⟩ S' ∧ R r S'
theorem SpecS.spec {P : Program} {f : FuncId} {ps : List VP} {S : List HP} {R : VP → List HP → Prop} (h : SpecS P f ps S R) : Spec P f ps S R :=
  ⟨fun c vs ha hs => (h.run c vs ha hs).mono fun e w' ⟨v, F', r, H, h1, h2, _, h4⟩ => ⟨v, F', r, H, h1, h2, h4⟩⟩
theorem Spec.frame {P : Program} {f : FuncId} {ps : List VP} {R : VP → List HP → Prop} (h : Spec P f ps [] R) (S : List HP) : Spec P f ps S (fun r S' => ∃ H, R r H ∧ S' = H ++ S) :=
  ⟨fun c vs ha hs => (h.beside ha hs).mono fun e w' ⟨v, F', r, H, h1, h2, _, h4, h5, h6⟩ => ⟨v, F', r, H ++ S, h1, h2, h4, h5, H, h6, rfl⟩⟩

section
variable {P : Program} {n : Nat} {ops : Array Oper} {o : Oper} {l : List Oper} {K : Slots → List HP → Prop} {φ : Slots} {S : List HP}

/-- a call by a contract over no owned memory -/
theorem RH.callF {d : Nat} {f : FuncId} {xs : List Operand} {ts : Array TypeId} {ps : List VP} {R : VP → List HP → Prop} (ho : o.op = .call ⟨.value (.func f), xs.toArray, ts⟩) (hd : o.dst = some d)
    (hn : Nat.blt d n = true) (he : Enters P f) (ha : Opds φ xs ps) (hv : Spec P f ps [] R) (h : ∀ r H, R r H → RL P n ops l K ((d, r) :: φ) (H ++ S)) : RH P n ops o l K φ S :=
  RH.call ho hd hn he ha (hv.frame S) (fun r S' ⟨H, hR, e⟩ => e ▸ h r H hR)

/-! ### regions that draw their order -/
/-- any order that the edges allow; an operation that is not in W leaves the blocks that were there as they were -/
def wpAnyM (P : Program) (ops : Array Oper) (W : Nat → Bool) (QN : Act → World → Prop) : Nat → Array Bool → Act → World → Prop
  | 0, listed, a, w => Region.ready .any ops listed = [] ∧ QN a w
  | fuel + 1, listed, a, w => (Region.ready .any ops listed = [] → QN a w) ∧
    ∀ i ∈ Region.ready .any ops listed, wpOp P ops (fun e a w => e = .normal ∧ QN a w) i (fun a' w' => (W i = true ∨ Same w w') ∧ wpAnyM P ops W QN fuel (listed.setIfInBounds i true) a' w') a w

theorem wpAny_of_M {W : Nat → Bool} {QN : Act → World → Prop} : ∀ (fuel : Nat) (listed : Array Bool) (a : Act) (w : World), wpAnyM P ops W QN fuel listed a w →
    wpAny P .any ops (fun e a w => e = .normal ∧ QN a w) fuel listed a w := by
  intro fuel
  induction fuel with
  | zero => exact fun listed a w h => ⟨h.1, rfl, h.2⟩
  | succ fuel ih => exact fun listed a w h => ⟨fun h0 => ⟨rfl, h.1 h0⟩, fun i hi => wpOp_mono (fun a' w' h' => ih _ a' w' h'.2) (h.2 i hi)⟩

def YM (P : Program) (ops : Array Oper) (o : Oper) (v : Value) (a : Act) (w : World) : Prop :=
  (Region.wanted o (yielded ops a.tmps) = true ∧ ∀ w', Same w w' → (execOp a.eval o).run P w' = .ok (.value v) w') ∨
  (Region.wanted o (yielded ops a.tmps) = false ∧ v = undef)

theorem YM.op {i : Nat} {v : Value} {a : Act} {w : World} {Q : Exit → Act → World → Prop} {K : Act → World → Prop} (hi : ops[i]? = some o) (hy : YM P ops o v a w) (h : K (a.put o.dst v) w) : wpOp P ops Q i K a w := by
  unfold wpOp
  simp only [hi]
  rcases hy with ⟨hw, hv⟩ | ⟨hw, rfl⟩
  · simp only [hw, if_true, Oper.wp, hv w (.refl w), Oper.upon]; exact .inl h
  · simp only [hw, Bool.false_eq_true, if_false]; exact h

theorem YM.keep {v u : Value} {oi oj : Oper} {a : Act} {w w' : World} (hy : YM P ops oi v a w) (hsi : ∀ cs b, oi.op ≠ .select cs b) (h3 : ∀ d, oj.dst = some d → d ∉ oi.looksAt ops) (hw : Same w w') :
    YM P ops oi v (a.put oj.dst u) w' := by
  unfold YM at *
  rw [execOp_put oi hsi a oj.dst u h3, wanted_put oi a oj.dst u h3]
  exact hy.imp (fun h => ⟨h.1, fun w2 h2 => h.2 w2 (hw.trans h2)⟩) id

theorem wpOp_putM {j : Nat} {oi oj : Oper} {v : Value} {QN : Act → World → Prop} (hj : ops[j]? = some oj) (hap : oi.apart ops oj = true) (hsi : ∀ cs b, oi.op ≠ .select cs b) (hsj : ∀ cs b, oj.op ≠ .select cs b)
    {K : Act → World → Prop} {a : Act} {w : World} (hy : YM P ops oi v a w) (h : wpOp P ops (fun e a w => e = .normal ∧ QN a w) j (fun a' w' => Same w w' ∧ K a' w') (a.put oi.dst v) w) :
    wpOp P ops (fun e a w => e = .normal ∧ QN a w) j (fun a' w' => Same w w' ∧ YM P ops oi v a' w' ∧ K (a'.put oi.dst v) w') a w := by
  obtain ⟨h1, h2, h3⟩ := Oper.apart_spec hap
  unfold wpOp at *
  simp only [hj] at *
  rw [wanted_put oj a oi.dst v h1] at h
  split
  · rename_i hw
    simp only [hw, if_true] at h
    rcases h with h | ⟨_, a', w', h0, _⟩
    case inr => cases h0
    refine .inl ?_
    unfold Oper.wp at *
    rw [execOp_put oj hsj a oi.dst v h1] at h
    generalize (execOp a.eval oj).run P w = r at *
    cases r with
    | ok nx w' =>
      cases nx <;> simp only [Oper.upon] at h ⊢
      case value u => exact ⟨h.1, hy.keep hsi h3 h.1, by rw [← Act.put_comm a v u h2]; exact h.2⟩
      case skip => exact ⟨h.1, hy.keep hsi h3 h.1, by rw [← Act.put_comm a v undef h2]; exact h.2⟩
      case defer d =>
        refine ⟨h.1, (YM.keep (a := { a with defers := d :: a.defers }) hy hsi h3 h.1), ?_⟩
        rw [← Act.put_comm _ v undef h2, ← Act.put_defers]
        exact h.2
      case enter f args =>
        refine Calls.mono h fun e w'' he => ?_
        cases e with
        | returned u => exact ⟨he.1, hy.keep hsi h3 he.1, by rw [← Act.put_comm a v u h2]; exact he.2⟩
        | panicked c => cases he.1
        | outgrown => obtain ⟨_, _, h0, _⟩ := he; cases h0
      case row row args => exact Rows.mono h fun u w'' he => ⟨he.1, hy.keep hsi h3 he.1, by rw [← Act.put_comm a v u h2]; exact he.2⟩
    | halt x w' =>
      cases x <;> simp only [Oper.upon] at h ⊢
      case panic u => cases h.1
  · rename_i hw
    simp only [hw] at h
    exact ⟨h.1, hy.keep hsi h3 h.1, by rw [← Act.put_comm a v undef h2]; exact h.2⟩

theorem wpAnyM_first {W D : Nat → Bool} {QN : Act → World → Prop} {i : Nat} {oi : Oper} {v : Value} (hi : ops[i]? = some oi) (hsel : ∀ (j : Nat) (o : Oper) cs b, ops[j]? = some o → o.op ≠ .select cs b)
    (hD : ∀ j oj, ops[j]? = some oj → D j = true → ∃ e ∈ oj.after, Region.binds .any e = true ∧ (e.on = i ∨ D e.on = true)) :
    ∀ (fuel : Nat) (listed : Array Bool) (a : Act) (w : World),
      (∀ j, D j = true → listed.getD j true = false) →
      (∀ j oj, ops[j]? = some oj → j ≠ i → listed.getD j true = false → D j = false → oi.apart ops oj = true ∧ W j = false) →
      i ∈ Region.ready .any ops listed → YM P ops oi v a w →
      wpAnyM P ops W QN fuel (listed.setIfInBounds i true) (a.put oi.dst v) w → wpAnyM P ops W QN (fuel + 1) listed a w := by
  intro fuel
  induction fuel with
  | zero =>
    intro listed a w _ _ hr hy H
    refine ⟨fun h => (by rw [h] at hr; cases hr), fun j hj => ?_⟩
    by_cases hji : j = i
    · subst hji; exact hy.op hi ⟨.inr (.refl w), H⟩
    · have := ready_mono hj hji
      rw [H.1] at this
      cases this
  | succ fuel ih =>
    intro listed a w hlate hfree hr hy H
    refine ⟨fun h => (by rw [h] at hr; cases hr), fun j hj => ?_⟩
    by_cases hji : j = i
    · subst hji; exact hy.op hi ⟨.inr (.refl w), H⟩
    · have h1 := H.2 j (ready_mono hj hji)
      obtain ⟨hjun, oj, hoj, hall⟩ := mem_ready.1 hj
      have hDj : D j = false := by
        cases hd : D j with
        | false => rfl
        | true =>
          obtain ⟨e, he, hb, h2⟩ := hD j oj hoj hd
          have h1 := hall e he hb
          have h0 : listed.getD e.on true = false := by
            rcases h2 with h2 | h2
            · rw [h2]; exact (mem_ready.1 hr).1
            · exact hlate _ h2
          rcases Nat.lt_or_ge e.on listed.size with h' | h'
          · simp [h'] at h0 h1; rw [h0] at h1; cases h1
          · simp [Array.getElem?_eq_none h'] at h1
      have hfj := hfree j oj hoj hji hjun hDj
      have h1' := wpOp_mono (K' := fun a' w' => Same w w' ∧ wpAnyM P ops W QN fuel ((listed.setIfInBounds i true).setIfInBounds j true) a' w') (fun a' w' h => ⟨h.1.resolve_left (by simp [hfj.2]), h.2⟩) h1
      have h2 := wpOp_putM hoj hfj.1 (fun cs b => hsel i oi cs b hi) (fun cs b => hsel j oj cs b hoj) hy h1'
      have hlate' : ∀ k, D k = true → (listed.setIfInBounds j true).getD k true = false := fun k hk => by
        have hjk : j ≠ k := fun e => by rw [e, hk] at hDj; cases hDj
        rw [getD_set_ne true hjk]; exact hlate k hk
      have hfree' : ∀ k ok, ops[k]? = some ok → k ≠ i → (listed.setIfInBounds j true).getD k true = false → D k = false → oi.apart ops ok = true ∧ W k = false := fun k ok hk hki hun hno => by
        refine hfree k ok hk hki ?_ hno
        by_cases hjk : j = k
        · subst hjk; exact hjun
        · rw [getD_set_ne true hjk] at hun; exact hun
      refine wpOp_mono (fun a' w' h3 => ⟨.inr h3.1, ih (listed.setIfInBounds j true) a' w' hlate' hfree' (ready_mono hr (Ne.symm hji)) h3.2.1 ?_⟩) h2
      rw [Array.setIfInBounds_comm _ _ hji]
      exact h3.2.2

/-- whatever may come up ahead of operation i waits for it (D), or is apart from it and leaves old blocks alone -/
def freeW (ops : Array Oper) (W : Nat → Bool) (D listed : Array Bool) (i : Nat) : Bool :=
  Region.noSelect ops &&
  match ops[i]? with
  | none => false
  | some oi => Nat.ble D.size ops.size && (List.range ops.size).all fun j => match ops[j]? with
      | some oj => cond (D.getD j false) (!listed.getD j true && oj.after.any (fun e => Region.binds .any e && (e.on == i || D.getD e.on false))) (j == i || listed.getD j true || (oi.apart ops oj && !W j))
      | none => true

theorem freeW_spec {W : Nat → Bool} {i : Nat} {oi : Oper} {D listed : Array Bool} (hi : ops[i]? = some oi) (hsz : D.size ≤ ops.size) (h : freeW ops W D listed i = true) :
    (∀ j oj, ops[j]? = some oj → D.getD j false = true → ∃ e ∈ oj.after, Region.binds .any e = true ∧ (e.on = i ∨ D.getD e.on false = true)) ∧
    (∀ j, D.getD j false = true → listed.getD j true = false) ∧
    (∀ j oj, ops[j]? = some oj → j ≠ i → listed.getD j true = false → D.getD j false = false → oi.apart ops oj = true ∧ W j = false) := by
  simp only [freeW, hi, List.all_eq_true, List.mem_range, Bool.and_eq_true] at h
  have key : ∀ j oj, ops[j]? = some oj → cond (D.getD j false) (!listed.getD j true && oj.after.any (fun e => Region.binds .any e && (e.on == i || D.getD e.on false))) (j == i || listed.getD j true || (oi.apart ops oj && !W j)) = true := fun j oj hj => by
    have h1 := h.2.2 j (Array.getElem?_eq_some_iff.1 hj).1
    simpa only [hj] using h1
  refine ⟨fun j oj hj hd => ?_, fun j hd => ?_, fun j oj hj hne hun hd => ?_⟩
  · have h1 := key j oj hj
    rw [hd, cond_true, Bool.and_eq_true] at h1
    obtain ⟨e, he, hb⟩ := Array.any_eq_true'.1 h1.2
    simp only [Bool.and_eq_true, Bool.or_eq_true, beq_iff_eq] at hb
    exact ⟨e, he, hb.1, hb.2⟩
  · have hlt : j < D.size := by
      apply Classical.byContradiction
      intro hn
      simp [Array.getD, hn] at hd
    have hlt' : j < ops.size := by omega
    have h1 := key j ops[j] (Array.getElem?_eq_getElem hlt')
    rw [hd, cond_true, Bool.and_eq_true] at h1
    simpa using h1.1
  · have h1 := key j oj hj
    rw [hd, cond_false, Bool.or_eq_true, Bool.or_eq_true, Bool.and_eq_true] at h1
    rcases h1 with (h1 | h1) | h1
    · exact absurd (by simpa using h1) hne
    · rw [hun] at h1; cases h1
    · exact ⟨h1.1, by simpa using h1.2⟩

/-- the guard of an operation is decided -/
inductive Wants (n : Nat) (ops : Array Oper) (φ : Slots) (o : Oper) : Bool → Prop
  | none : o.guard = .none → Wants n ops φ o true
  | yes {j d : Nat} {want : Bool} : o.guard = some (j, want) → (ops[j]?).bind (·.dst) = some d → Nat.blt d n = true → φ.get d = some (vbool want) → Wants n ops φ o true
  | no {j d : Nat} {want : Bool} {v : Value} : o.guard = some (j, want) → (ops[j]?).bind (·.dst) = some d → Nat.blt d n = true → φ.get d = some (vlit v) → isNot want v = true → Wants n ops φ o false

theorem Wants.wanted {b : Bool} {c : Ctx} {a : Act} (h : Wants n ops φ o b) (hf : FH c n φ a) : Region.wanted o (yielded ops a.tmps) = b := by
  cases h with
  | none hg => simp [Region.wanted, hg]
  | yes hg hj hd hv =>
    have hy := yielded_of hf hj (Nat.blt_eq.mp hd) hv
    simp [Region.wanted, hg, hy]
  | @no j d want v hg hj hd hv hno =>
    have hy := yielded_of hf hj (Nat.blt_eq.mp hd) hv
    cases v <;> simp_all [Region.wanted, isNot]

/-- a region that draws its order, some operations done ('listed'), m left -/
structure RD (P : Program) (n : Nat) (id : Nat) (ops : Array Oper) (W : Nat → Bool) (K : Slots → List HP → Prop) (m : Nat) (listed : Array Bool) (φ : Slots) (S : List HP) : Prop where
  run : ∀ c a, FH c n φ a → SH c S → wpAnyM P ops W (fun a' w' => ∃ F' φ' S', c.le ⟨F', c.U, w'⟩ ∧ FH ⟨F', c.U, w'⟩ n φ' a' ∧ SH ⟨F', c.U, w'⟩ S' ∧ K φ' S') m listed a c.w

theorem wpAnyM_mono {W : Nat → Bool} {QN QN' : Act → World → Prop} (hq : ∀ a w, QN a w → QN' a w) : ∀ (m : Nat) (listed : Array Bool) (a : Act) (w : World), wpAnyM P ops W QN m listed a w → wpAnyM P ops W QN' m listed a w := by
  intro m
  induction m with
  | zero => exact fun _ a w h => ⟨h.1, hq _ _ h.2⟩
  | succ m ih =>
    intro listed a w h
    refine ⟨fun h0 => hq _ _ (h.1 h0), fun i hi => ?_⟩
    have h1 := h.2 i hi
    unfold wpOp at *
    split
    · simp only [*] at h1; exact ⟨h1.1, ih _ _ _ h1.2⟩
    · rename_i o ho
      simp only [ho] at h1
      split
      · rename_i hw
        simp only [hw, if_true] at h1
        rcases h1 with h1 | ⟨_, _, _, h0, _⟩
        case inr => cases h0
        refine .inl ?_
        unfold Oper.wp at *
        generalize (execOp a.eval o).run P w = r at *
        cases r with
        | ok nx w' =>
          cases nx <;> simp only [Oper.upon] at h1 ⊢ <;>
            first
              | exact ⟨h1.1, ih _ _ _ h1.2⟩
              | exact Calls.mono h1 (fun e w'' he => by
                  cases e with
                  | returned v => exact ⟨he.1, ih _ _ _ he.2⟩
                  | panicked c => cases he.1
                  | outgrown => obtain ⟨_, _, h0, _⟩ := he; cases h0)
              | exact Rows.mono h1 (fun _ _ he => ⟨he.1, ih _ _ _ he.2⟩)
        | halt x w' => cases x <;> simp only [Oper.upon] at h1 ⊢ <;> cases h1.1
      · rename_i hw
        simp only [hw] at h1
        exact ⟨h1.1, ih _ _ _ h1.2⟩

variable {id : Nat} {W : Nat → Bool} {m : Nat} {listed : Array Bool}

theorem RD.le {c c' : Ctx} {a : Act} (hl : c.le c') (h : wpAnyM P ops W (fun a' w' => ∃ F' φ' S', c'.le ⟨F', c'.U, w'⟩ ∧ FH ⟨F', c'.U, w'⟩ n φ' a' ∧ SH ⟨F', c'.U, w'⟩ S' ∧ K φ' S') m listed a c'.w) :
    wpAnyM P ops W (fun a' w' => ∃ F' φ' S', c.le ⟨F', c.U, w'⟩ ∧ FH ⟨F', c.U, w'⟩ n φ' a' ∧ SH ⟨F', c.U, w'⟩ S' ∧ K φ' S') m listed a c'.w :=
  wpAnyM_mono (fun a w ⟨F', φ', S', h1, h2, h3, h4⟩ => by rw [hl.un] at h1 h2 h3; exact ⟨F', φ', S', hl.trans h1, h2, h3, h4⟩) _ _ _ _ h

theorem RD.done (hr : Region.ready .any ops listed = []) (h : K φ S) : RD P n id ops W K m listed φ S := by
  refine ⟨fun c a hf hs => ?_⟩
  have hq : ∃ F' φ' S', c.le ⟨F', c.U, c.w⟩ ∧ FH ⟨F', c.U, c.w⟩ n φ' a ∧ SH ⟨F', c.U, c.w⟩ S' ∧ K φ' S' := ⟨c.F, φ, S, .refl c, hf, hs, h⟩
  cases m with
  | zero => exact ⟨hr, hq⟩
  | succ m => exact ⟨fun _ => hq, by rw [hr]; simp⟩

theorem RD.take {r : VP} {d : Nat} (i : Nat) (l' : Array Bool) (hi : ops[i]? = some o) (hl : listed.setIfInBounds i true = l') (hw : Wants n ops φ o true) (hd : o.dst = some d) (hn : Nat.blt d n = true) (hr : (Region.ready .any ops listed).contains i = true)
    (D : Array Bool) (hf : freeW ops W D listed i = true) (hv : VOp P n φ S o r) (h : RD P n id ops W K m l' ((d, r) :: φ) S) : RD P n id ops W K (m + 1) listed φ S := by
  subst hl
  refine ⟨fun c a hfh hs => ?_⟩
  obtain ⟨v, he, hp⟩ := hv.run c a hfh hs
  have hsel := Region.noSelect_spec (ops := ops) (by simp only [freeW, Bool.and_eq_true] at hf; exact hf.1)
  obtain ⟨f1, f2, f3⟩ := freeW_spec hi (by simp only [freeW, hi, Bool.and_eq_true] at hf; exact Nat.le_of_ble_eq_true hf.2.1) hf
  refine wpAnyM_first hi hsel f1 m listed a c.w f2 f3 (by simpa using hr) (.inl ⟨hw.wanted hfh, he⟩) ?_
  rw [hd]
  exact h.run c _ (hfh.put (Nat.blt_eq.mp hn) hp) hs

theorem RD.skip {d : Nat} (i : Nat) (l' : Array Bool) (hi : ops[i]? = some o) (hl : listed.setIfInBounds i true = l') (hw : Wants n ops φ o false) (hd : o.dst = some d) (hn : Nat.blt d n = true) (hr : (Region.ready .any ops listed).contains i = true)
    (D : Array Bool) (hf : freeW ops W D listed i = true) (h : RD P n id ops W K m l' ((d, vlit undef) :: φ) S) : RD P n id ops W K (m + 1) listed φ S := by
  subst hl
  refine ⟨fun c a hfh hs => ?_⟩
  have hsel := Region.noSelect_spec (ops := ops) (by simp only [freeW, Bool.and_eq_true] at hf; exact hf.1)
  obtain ⟨f1, f2, f3⟩ := freeW_spec hi (by simp only [freeW, hi, Bool.and_eq_true] at hf; exact Nat.le_of_ble_eq_true hf.2.1) hf
  refine wpAnyM_first hi hsel f1 m listed a c.w f2 f3 (by simpa using hr) (.inr ⟨hw.wanted hfh, rfl⟩) ?_
  rw [hd]
  exact h.run c _ (hfh.put (Nat.blt_eq.mp hn) rfl) hs

/-- operation i is the next one -/
structure RO (P : Program) (n : Nat) (id : Nat) (ops : Array Oper) (W : Nat → Bool) (K : Slots → List HP → Prop) (m : Nat) (listed : Array Bool) (i : Nat) (φ : Slots) (S : List HP) : Prop where
  run : ∀ c a, FH c n φ a → SH c S → wpOp P ops (fun e a' w' => e = .normal ∧ ∃ F' φ' S', c.le ⟨F', c.U, w'⟩ ∧ FH ⟨F', c.U, w'⟩ n φ' a' ∧ SH ⟨F', c.U, w'⟩ S' ∧ K φ' S') i
    (fun a' w' => (W i = true ∨ Same c.w w') ∧ wpAnyM P ops W (fun a' w' => ∃ F' φ' S', c.le ⟨F', c.U, w'⟩ ∧ FH ⟨F', c.U, w'⟩ n φ' a' ∧ SH ⟨F', c.U, w'⟩ S' ∧ K φ' S') m (listed.setIfInBounds i true) a' w') a c.w
theorem RD.o1 (i : Nat) (hr : Region.ready .any ops listed = [i]) (h : RO P n id ops W K m listed i φ S) : RD P n id ops W K (m + 1) listed φ S :=
  ⟨fun c a hf hs => ⟨fun h0 => absurd (hr ▸ h0 : [i] = []) (by simp), fun j hj => by
    rw [hr, List.mem_singleton] at hj; subst hj; exact h.run c a hf hs⟩⟩
theorem RD.o2 (i j : Nat) (hr : Region.ready .any ops listed = [i, j]) (h : RO P n id ops W K m listed i φ S) (h' : RO P n id ops W K m listed j φ S) : RD P n id ops W K (m + 1) listed φ S :=
  ⟨fun c a hf hs => ⟨fun h0 => absurd (hr ▸ h0 : [i, j] = []) (by simp), fun k hk => by
    rw [hr] at hk
    simp only [List.mem_cons, List.not_mem_nil, or_false] at hk
    rcases hk with rfl | rfl
    · exact h.run c a hf hs
    · exact h'.run c a hf hs⟩⟩
theorem RO.split {i j d : Nat} {w b : Bool} (hv : φ.get d = some (vbool b)) (ht : b = true → RO P n id ops W K m listed i ((d, vbool true) :: φ) S) (he : b = false → RO P n id ops W K m listed i ((d, vbool false) :: φ) S) : RO P n id ops W K m listed i φ S := by
  cases b with
  | true => exact ⟨fun c a hf hs => by obtain ⟨F', hle, h1, h2⟩ := (Ent.dup hv) c n a hf hs; exact (ht rfl).run c a ⟨hf.size, hf.defers, fun t p h => by
      simp only [Slots.get] at h
      cases hb : Nat.beq d t with
      | true => obtain rfl := Nat.eq_of_beq_eq_true hb; simp only [hb, cond_true, Option.some.injEq] at h; subst h; exact hf.slot _ _ hv
      | false => simp only [hb, cond_false] at h; exact hf.slot t p h⟩ hs⟩
  | false => exact ⟨fun c a hf hs => by exact (he rfl).run c a ⟨hf.size, hf.defers, fun t p h => by
      simp only [Slots.get] at h
      cases hb : Nat.beq d t with
      | true => obtain rfl := Nat.eq_of_beq_eq_true hb; simp only [hb, cond_true, Option.some.injEq] at h; subst h; exact hf.slot _ _ hv
      | false => simp only [hb, cond_false] at h; exact hf.slot t p h⟩ hs⟩

/-- an operation that comes up alone -/
theorem RO.alone (i : Nat) (l' : Array Bool) (hi : ops[i]? = some o) (hl : listed.setIfInBounds i true = l') (hw : Wants n ops φ o true)
    (h : ∀ c a, FH c n φ a → SH c S → o.wp P a c.w (fun a' w' => (W i = true ∨ Same c.w w') ∧ wpAnyM P ops W (fun a' w' => ∃ F' φ' S', c.le ⟨F', c.U, w'⟩ ∧ FH ⟨F', c.U, w'⟩ n φ' a' ∧ SH ⟨F', c.U, w'⟩ S' ∧ K φ' S') m l' a' w')
      (fun e a' w' => e = .normal ∧ ∃ F' φ' S', c.le ⟨F', c.U, w'⟩ ∧ FH ⟨F', c.U, w'⟩ n φ' a' ∧ SH ⟨F', c.U, w'⟩ S' ∧ K φ' S')) : RO P n id ops W K m listed i φ S := by
  subst hl
  refine ⟨fun c a hf hs => ?_⟩
  unfold wpOp
  simp only [hi]
  rw [if_pos (hw.wanted hf)]
  exact .inl (h c a hf hs)

theorem RO.val {r : VP} {d : Nat} (i : Nat) (l' : Array Bool) (hi : ops[i]? = some o) (hl : listed.setIfInBounds i true = l') (hw : Wants n ops φ o true) (hd : o.dst = some d) (hn : Nat.blt d n = true)
    (hv : VOp P n φ S o r) (h : RD P n id ops W K m l' ((d, r) :: φ) S) : RO P n id ops W K m listed i φ S :=
  RO.alone i l' hi hl hw fun c a hf hs => by
    obtain ⟨v, he, hp⟩ := hv.run c a hf hs
    unfold Oper.wp
    rw [he c.w (.refl _), Oper.upon_value, hd]
    exact ⟨.inr (.refl _), h.run c _ (hf.put (Nat.blt_eq.mp hn) hp) hs⟩

theorem RO.eff {d : Nat} {R : VP → List HP → Prop} (i : Nat) (l' : Array Bool) (hi : ops[i]? = some o) (hl : listed.setIfInBounds i true = l') (hW : W i = true) (hw : Wants n ops φ o true) (hd : o.dst = some d) (hn : Nat.blt d n = true)
    (hv : EOp P n φ S o R) (h : ∀ r S', R r S' → RD P n id ops W K m l' ((d, r) :: φ) S') : RO P n id ops W K m listed i φ S :=
  RO.alone i l' hi hl hw fun c a hf hs => by
    obtain ⟨v, w', F', r, S', he, hle, hp, hs', hR⟩ := hv.run c a hf hs
    unfold Oper.wp
    rw [he, Oper.upon_value, hd]
    exact ⟨.inl hW, RD.le (c' := ⟨F', c.U, w'⟩) hle ((h r S' hR).run ⟨F', c.U, w'⟩ _ ((hf.le hle).put (Nat.blt_eq.mp hn) hp) hs')⟩

theorem RO.unit {R : List HP → Prop} (i : Nat) (l' : Array Bool) (hi : ops[i]? = some o) (hl : listed.setIfInBounds i true = l') (hW : W i = true) (hw : Wants n ops φ o true) (hd : o.dst = none)
    (hv : UOp P n φ S o R) (h : ∀ S', R S' → RD P n id ops W K m l' φ S') : RO P n id ops W K m listed i φ S :=
  RO.alone i l' hi hl hw fun c a hf hs => by
    obtain ⟨w', F', S', he, hle, hs', hR⟩ := hv.run c a hf hs
    unfold Oper.wp
    rw [he, Oper.upon_skip, hd]
    exact ⟨.inl hW, RD.le (c' := ⟨F', c.U, w'⟩) hle ((h S' hR).run ⟨F', c.U, w'⟩ _ (hf.le hle) hs')⟩

/-- an operation that makes memory, and leaves what was there as it was -/
structure EOpS (P : Program) (n : Nat) (φ : Slots) (S : List HP) (o : Oper) (R : VP → List HP → Prop) : Prop where
  run : ∀ c a, FH c n φ a → SH c S → ∃ v w' F' r S', (execOp a.eval o).run P c.w = .ok (.value v) w' ∧ c.le ⟨F', c.U, w'⟩ ∧ Same c.w w' ∧ r.p ⟨F', c.U, w'⟩ v ∧ SH ⟨F', c.U, w'⟩ S' ∧ R r S'

theorem RO.effS {d : Nat} {R : VP → List HP → Prop} (i : Nat) (l' : Array Bool) (hi : ops[i]? = some o) (hl : listed.setIfInBounds i true = l') (hw : Wants n ops φ o true) (hd : o.dst = some d) (hn : Nat.blt d n = true)
    (hv : EOpS P n φ S o R) (h : ∀ r S', R r S' → RD P n id ops W K m l' ((d, r) :: φ) S') : RO P n id ops W K m listed i φ S :=
  RO.alone i l' hi hl hw fun c a hf hs => by
    obtain ⟨v, w', F', r, S', he, hle, hsame, hp, hs', hR⟩ := hv.run c a hf hs
    unfold Oper.wp
    rw [he, Oper.upon_value, hd]
    exact ⟨.inr hsame, RD.le (c' := ⟨F', c.U, w'⟩) hle ((h r S' hR).run ⟨F', c.U, w'⟩ _ ((hf.le hle).put (Nat.blt_eq.mp hn) hp) hs')⟩

theorem RO.callF {d : Nat} {f : FuncId} {xs : List Operand} {ts : Array TypeId} {ps : List VP} {R : VP → List HP → Prop} (i : Nat) (l' : Array Bool) (hi : ops[i]? = some o) (hl : listed.setIfInBounds i true = l')
    (hw : Wants n ops φ o true) (hd : o.dst = some d) (hn : Nat.blt d n = true) (ho : o.op = .call ⟨.value (.func f), xs.toArray, ts⟩) (he : Enters P f) (ha : Opds φ xs ps) (hv : Spec P f ps [] R)
    (h : ∀ r H, R r H → RD P n id ops W K m l' ((d, r) :: φ) (H ++ S)) : RO P n id ops W K m listed i φ S :=
  RO.alone i l' hi hl hw fun c a hf hs => by
    have hx := he (xs.map a.eval).toArray c.w
    unfold Oper.wp
    have e1 : (execOp a.eval o).run P c.w = (callFunc f (xs.map a.eval).toArray).run P c.w := by
      simp [execOp, ho, resolve, Act.eval, Deferred.ofValue, invoke]
    rw [e1, hx, Oper.upon_enter]
    refine (hv.beside (ha.args hf) hs).mono fun e w' ⟨v, F', r, H, e2, hle, hsame, hp, hs', hR⟩ => ?_
    subst e2
    rw [hd]
    exact ⟨.inr hsame, RD.le (c' := ⟨F', c.U, w'⟩) hle ((h r H hR).run ⟨F', c.U, w'⟩ _ ((hf.le hle).put (Nat.blt_eq.mp hn) hp) hs')⟩

/-- a call by a contract over owned memory, which may write it -/
theorem RO.call {d : Nat} {f : FuncId} {xs : List Operand} {ts : Array TypeId} {ps : List VP} {R : VP → List HP → Prop} (i : Nat) (l' : Array Bool) (hi : ops[i]? = some o) (hl : listed.setIfInBounds i true = l') (hW : W i = true)
    (hw : Wants n ops φ o true) (hd : o.dst = some d) (hn : Nat.blt d n = true) (ho : o.op = .call ⟨.value (.func f), xs.toArray, ts⟩) (he : Enters P f) (ha : Opds φ xs ps) (hv : Spec P f ps S R)
    (h : ∀ r S', R r S' → RD P n id ops W K m l' ((d, r) :: φ) S') : RO P n id ops W K m listed i φ S :=
  RO.alone i l' hi hl hw fun c a hf hs => by
    have hx := he (xs.map a.eval).toArray c.w
    unfold Oper.wp
    have e1 : (execOp a.eval o).run P c.w = (callFunc f (xs.map a.eval).toArray).run P c.w := by
      simp [execOp, ho, resolve, Act.eval, Deferred.ofValue, invoke]
    rw [e1, hx, Oper.upon_enter]
    refine (hv.run c _ (ha.args hf) hs).mono fun e w' ⟨v, F', r, S', e2, hle, hp, hs', hR⟩ => ?_
    subst e2
    rw [hd]
    exact ⟨.inl hW, RD.le (c' := ⟨F', c.U, w'⟩) hle ((h r S' hR).run ⟨F', c.U, w'⟩ _ ((hf.le hle).put (Nat.blt_eq.mp hn) hp) hs')⟩

/-- a call that leaves what was there as it was -/
theorem RO.callS {d : Nat} {f : FuncId} {xs : List Operand} {ts : Array TypeId} {ps : List VP} {R : VP → List HP → Prop} (i : Nat) (l' : Array Bool) (hi : ops[i]? = some o) (hl : listed.setIfInBounds i true = l')
    (hw : Wants n ops φ o true) (hd : o.dst = some d) (hn : Nat.blt d n = true) (ho : o.op = .call ⟨.value (.func f), xs.toArray, ts⟩) (he : Enters P f) (ha : Opds φ xs ps) (hv : SpecS P f ps S R)
    (h : ∀ r S', R r S' → RD P n id ops W K m l' ((d, r) :: φ) S') : RO P n id ops W K m listed i φ S :=
  RO.alone i l' hi hl hw fun c a hf hs => by
    have hx := he (xs.map a.eval).toArray c.w
    unfold Oper.wp
    have e1 : (execOp a.eval o).run P c.w = (callFunc f (xs.map a.eval).toArray).run P c.w := by
      simp [execOp, ho, resolve, Act.eval, Deferred.ofValue, invoke]
    rw [e1, hx, Oper.upon_enter]
    refine (hv.run c _ (ha.args hf) hs).mono fun e w' ⟨v, F', r, S', e2, hle, hsame, hp, hs', hR⟩ => ?_
    subst e2
    rw [hd]
    exact ⟨.inr hsame, RD.le (c' := ⟨F', c.U, w'⟩) hle ((h r S' hR).run ⟨F', c.U, w'⟩ _ ((hf.le hle).put (Nat.blt_eq.mp hn) hp) hs')⟩

/-- any rule on the run serves for an operation that comes up alone and may write -/
theorem RO.rh (i : Nat) (l' : Array Bool) (hi : ops[i]? = some o) (hl : listed.setIfInBounds i true = l') (hW : W i = true)
    (hw : Wants n ops φ o true) (h : RH P n ops o [] (fun φ' S' => RD P n id ops W K m l' φ' S') φ S) : RO P n id ops W K m listed i φ S :=
  RO.alone i l' hi hl hw fun c a hf hs => by
    have h1 := h.run c a ops.size (fun j => by simp) hf hs
    have hgo : ∀ a' w', wpOps P ops (Out n (fun e φ' S' => e = .normal ∧ RD P n id ops W K m l' φ' S') c) (List.range' ops.size 0) a' w' →
        (W i = true ∨ Same c.w w') ∧ wpAnyM P ops W (fun a' w' => ∃ F' φ' S', c.le ⟨F', c.U, w'⟩ ∧ FH ⟨F', c.U, w'⟩ n φ' a' ∧ SH ⟨F', c.U, w'⟩ S' ∧ K φ' S') m l' a' w' := by
      rintro a' w' ⟨F', φ', S', hle, h2, h3, _, h4⟩
      exact ⟨.inl hW, RD.le (c' := ⟨F', c.U, w'⟩) hle (h4.run ⟨F', c.U, w'⟩ a' h2 h3)⟩
    unfold Oper.wp at *
    generalize (execOp a.eval o).run P c.w = r at *
    cases r with
    | ok nx w' =>
      cases nx <;> simp only [Oper.upon] at h1 ⊢ <;>
        first
          | exact hgo _ _ h1
          | exact Calls.mono h1 (fun e w'' he => by
              cases e with
              | returned v => exact hgo _ _ he
              | panicked cc => obtain ⟨_, _, _, _, _, _, h0, _⟩ := he; cases h0
              | outgrown => obtain ⟨_, _, _, _, _, _, _, _, h0, _⟩ := he; cases h0)
          | exact Rows.mono h1 (fun _ _ he => hgo _ _ he)
    | halt x w' => cases x <;> simp only [Oper.upon] at h1 ⊢ <;> (obtain ⟨_, _, _, _, _, _, h0, _⟩ := h1; cases h0)

theorem RD.weaken {φ' : Slots} {S' : List HP} (h : Ent φ S φ' S') (hr : RD P n id ops W K m listed φ' S') : RD P n id ops W K m listed φ S := by
  refine ⟨fun c a hf hs => ?_⟩
  obtain ⟨F', hle, h1, h2⟩ := h c n a hf hs
  exact RD.le (c' := ⟨F', c.U, c.w⟩) hle (hr.run ⟨F', c.U, c.w⟩ a h1 h2)

theorem RD.split {i j d : Nat} {w b : Bool} (hi : ops[i]? = some o) (hg : o.guard = some (j, w)) (hj : (ops[j]?).bind (·.dst) = some d) (hv : φ.get d = some (vbool b))
    (ht : b = true → RD P n id ops W K m listed ((d, vbool true) :: φ) S) (he : b = false → RD P n id ops W K m listed ((d, vbool false) :: φ) S) : RD P n id ops W K m listed φ S := by
  cases b with
  | true => exact RD.weaken (Ent.dup hv) (ht rfl)
  | false => exact RD.weaken (Ent.dup hv) (he rfl)
theorem RD.splitD {i j d : Nat} {w : Bool} {p : Prop} [Decidable p] (hi : ops[i]? = some o) (hg : o.guard = some (j, w)) (hj : (ops[j]?).bind (·.dst) = some d) (hv : φ.get d = some (vbool (decide p)))
    (ht : p → RD P n id ops W K m listed ((d, vbool true) :: φ) S) (he : ¬ p → RD P n id ops W K m listed ((d, vbool false) :: φ) S) : RD P n id ops W K m listed φ S :=
  RD.split hi hg hj hv (fun h => ht (of_decide_eq_true h)) (fun h => he (of_decide_eq_false h))
theorem RD.splitND {i j d : Nat} {w : Bool} {p : Prop} [Decidable p] (hi : ops[i]? = some o) (hg : o.guard = some (j, w)) (hj : (ops[j]?).bind (·.dst) = some d) (hv : φ.get d = some (vbool (!decide p)))
    (ht : ¬ p → RD P n id ops W K m listed ((d, vbool true) :: φ) S) (he : p → RD P n id ops W K m listed ((d, vbool false) :: φ) S) : RD P n id ops W K m listed φ S :=
  RD.split hi hg hj hv (fun h => ht (by simpa using h)) (fun h => he (by simpa using h))
theorem RD.splitNB {i j d : Nat} {w b : Bool} (hi : ops[i]? = some o) (hg : o.guard = some (j, w)) (hj : (ops[j]?).bind (·.dst) = some d) (hv : φ.get d = some (vbool (!b)))
    (ht : b = false → RD P n id ops W K m listed ((d, vbool true) :: φ) S) (he : b = true → RD P n id ops W K m listed ((d, vbool false) :: φ) S) : RD P n id ops W K m listed φ S :=
  RD.split hi hg hj hv (fun h => ht (by simpa using h)) (fun h => he (by simpa using h))

/-- A REGION THAT DRAWS ITS ORDER -/
theorem Run.regionD {Q : Post} {lo : List Oper} (W : Nat → Bool) (hm : P.follows .mixedOrders = true) (h : RD P n id lo.toArray W (Q .normal) lo.length (Array.replicate lo.length false) φ S) : Run P n (.region id lo.toArray true) Q φ S := by
  refine ⟨fun c a hf hs => ?_⟩
  have hl : c.le ⟨c.F, c.U, { c.w with drawn := c.w.drawn + 1 }⟩ := ⟨fun _ h => h, rfl, fun _ _ => rfl, Nat.le_refl _, rfl, rfl, rfl⟩
  obtain ⟨fs, hs⟩ := hs
  have hs' : SH ⟨c.F, c.U, { c.w with drawn := c.w.drawn + 1 }⟩ S := ⟨fs, hs.all.keep hl.v fun _ _ => rfl, hs.nodup, hs.own, hs.fro, hs.dis⟩
  have h1 := RD.le hl (h.run ⟨c.F, c.U, { c.w with drawn := c.w.drawn + 1 }⟩ a (hf.le hl) hs')
  have h2 := wpAny_of_M _ _ _ _ h1
  refine wp_mono (wp_region_any hm (Q := fun e a w => e = .normal ∧ ∃ F' φ' S', c.le ⟨F', c.U, w⟩ ∧ FH ⟨F', c.U, w⟩ n φ' a ∧ SH ⟨F', c.U, w⟩ S' ∧ Q .normal φ' S') (by simpa using h2)) ?_
  rintro e a' w' ⟨rfl, F', φ', S', h1, h2, h3, h4⟩
  exact ⟨F', φ', S', h1, h2, h3, h4⟩
end
end Go.Proofs.YtemfpennomelaaaDoor

/- Struct and slice literals; a struct's zero parts. Proved for every program P; no conditions but small sizes. -/
namespace Go.Proofs.YtemfpennomelaaaDoor
open Go
set_option linter.unusedVariables false

/-- cells from o on are set -/
def setR (cells : Array Value) (o : Nat) (vs : List Value) : Array Value := (vs.zipIdx).foldl (fun cs (x : Value × Nat) => cs.setIfInBounds (o + x.2) x.1) cells

theorem setR_from : ∀ (vs : List Value) (m o : Nat) (cells : Array Value), (vs.zipIdx m).foldl (fun cs (x : Value × Nat) => cs.setIfInBounds (o + x.2) x.1) cells =
    (vs.zipIdx 0).foldl (fun cs (x : Value × Nat) => cs.setIfInBounds (o + m + x.2) x.1) cells
  | [], m, o, cells => rfl
  | v :: vs, m, o, cells => by
    simp only [List.zipIdx_cons, List.foldl_cons, Nat.add_zero, Nat.zero_add]
    rw [setR_from vs (m + 1) o, setR_from vs 1 (o + m)]
    simp only [Nat.add_assoc]

theorem setR_cons (v : Value) (vs : List Value) (o : Nat) (cells : Array Value) : setR cells o (v :: vs) = setR (cells.setIfInBounds o v) (o + 1) vs := by
  unfold setR
  simp only [List.zipIdx_cons, List.foldl_cons, Nat.add_zero, Nat.zero_add]
  rw [setR_from vs 1 o]

theorem setR_size : ∀ (vs : List Value) (o : Nat) (cells : Array Value), (setR cells o vs).size = cells.size
  | [], _, _ => rfl
  | v :: vs, o, cells => by rw [setR_cons, setR_size]; simp

theorem setR_get : ∀ (vs : List Value) (o : Nat) (cells : Array Value) (j : Nat), o + vs.length ≤ cells.size →
    (setR cells o vs)[j]? = if o ≤ j ∧ j < o + vs.length then vs[j - o]? else cells[j]?
  | [], o, cells, j, _ => by
    show cells[j]? = _
    simp; omega
  | v :: vs, o, cells, j, h => by
    rw [setR_cons, setR_get vs (o + 1) _ j (by simp at h ⊢; omega)]
    simp only [List.length_cons] at h ⊢
    by_cases h1 : o + 1 ≤ j ∧ j < o + 1 + vs.length
    · rw [if_pos h1, if_pos ⟨by omega, by omega⟩]
      have : j - o = (j - (o + 1)) + 1 := by omega
      rw [this]; simp
    · rw [if_neg h1]
      by_cases h2 : o = j
      · subst h2
        rw [if_pos ⟨Nat.le_refl _, by omega⟩]
        have : o < cells.size := by omega
        simp [this]
      · rw [if_neg (by omega), Array.getElem?_setIfInBounds_ne h2]

theorem fill_cons (place : Nat → Option (Nat × Nat)) (cells : Array Value) (i : Nat) (v : Value) (rest : List (Nat × Value)) (o k : Nat) (hp : place i = some (o, k)) (hs : v.cells.size = k) (hf : o + k ≤ cells.size) :
    Instr.fill place cells ((i, v) :: rest) = Instr.fill place (setR cells o v.cells.toList) rest := by
  rw [Instr.fill, hp]
  simp only []
  rw [if_neg (by subst hs; simp; omega)]
  congr 1
  unfold setR
  rw [← Array.foldl_toList]
  simp

/-- assertions on the cells of a row, some of them set -/
def setV (qs : List VP) (o : Nat) (rs : List VP) : List VP := qs.take o ++ rs ++ qs.drop (o + rs.length)

def CellsV (c : Ctx) (arr : Array Value) (qs : List VP) : Prop := arr.size = qs.length ∧ ∀ (j : Nat) (p : VP), qs[j]? = some p → ∃ v, arr[j]? = some v ∧ p.p c v

theorem CellsV.set {c : Ctx} {arr : Array Value} {qs rs : List VP} {vs : List Value} {o : Nat} (h : CellsV c arr qs) (hv : VPs c rs vs) (hf : o + rs.length ≤ qs.length) : CellsV c (setR arr o vs) (setV qs o rs) := by
  have hlen := hv.length
  refine ⟨by rw [setR_size, h.1]; simp [setV]; omega, fun j p hp => ?_⟩
  rw [setR_get _ _ _ _ (by rw [h.1, ← hlen]; exact hf)]
  unfold setV at hp
  rw [List.append_assoc, List.getElem?_append] at hp
  have e : (qs.take o).length = o := by simp; omega
  rw [e] at hp
  split at hp
  · rename_i h1
    rw [List.getElem?_take, if_pos h1] at hp
    rw [if_neg (by omega)]; exact h.2 j p hp
  · rename_i h1
    rw [List.getElem?_append] at hp
    split at hp
    · rename_i h2
      rw [if_pos ⟨by omega, by omega⟩]
      exact hv.get _ _ hp
    · rename_i h2
      rw [List.getElem?_drop] at hp
      have : o + rs.length + (j - o - rs.length) = j := by omega
      rw [this] at hp
      rw [if_neg (by omega)]; exact h.2 j p hp

theorem CellsV.vps {c : Ctx} {arr : Array Value} {qs : List VP} (h : CellsV c arr qs) : VPs c qs arr.toList := by
  have key : ∀ (qs : List VP) (l : List Value), l.length = qs.length → (∀ (j : Nat) (p : VP), qs[j]? = some p → ∃ v, l[j]? = some v ∧ p.p c v) → VPs c qs l := by
    intro qs
    induction qs with
    | nil => intro l hl _; cases l with
      | nil => exact .nil
      | cons => simp at hl
    | cons q qs ih =>
      intro l hl hq
      cases l with
      | nil => simp at hl
      | cons v l =>
        obtain ⟨v', h1, h2⟩ := hq 0 q rfl
        simp only [List.getElem?_cons_zero, Option.some.injEq] at h1; subst h1
        exact .cons h2 (ih l (by simpa using hl) (fun j p hp => by simpa using hq (j + 1) p (by simpa using hp)))
  exact key qs arr.toList (by simpa using h.1) (fun j p hp => by simpa using h.2 j p hp)

theorem CellsV.of {c : Ctx} {arr : Array Value} {qs : List VP} (h : VPs c qs arr.toList) : CellsV c arr qs :=
  ⟨by have := h.length; simpa using this.symm, fun j p hp => by simpa using h.get j p hp⟩

/-- the cells of a value: a struct's, or one -/
inductive CellsOf : VP → List VP → Prop
  | agg {qs : List VP} : CellsOf (vagg qs) qs
  | one {p : VP} [One p] : CellsOf p [p]

theorem CellsOf.vps {c : Ctx} {p : VP} {qs : List VP} {v : Value} (h : CellsOf p qs) (hp : p.p c v) : VPs c qs v.cells.toList := by
  cases h with
  | agg => obtain ⟨vs, rfl, h⟩ := hp; simpa [Value.cells] using h
  | one => rw [one_cells hp]; exact .cons hp .nil

/-- the parts of a struct literal -/
inductive Parts (φ : Slots) : List (Nat × Nat) → List VP → List (Nat × Operand) → List VP → Prop
  | nil {pl : List (Nat × Nat)} {qs : List VP} : Parts φ pl qs [] qs
  | cons {pl : List (Nat × Nat)} {qs rs qs' : List VP} {i o k : Nat} {x : Operand} {p : VP} {ps : List (Nat × Operand)} : pl[i]? = some (o, k) → opd φ x = some p → CellsOf p rs → rs.length = k → Nat.ble (o + k) qs.length = true →
      Parts φ pl (setV qs o rs) ps qs' → Parts φ pl qs ((i, x) :: ps) qs'

theorem Parts.fill {φ : Slots} {n : Nat} {c : Ctx} {a : Act} (hf : FH c n φ a) {pl : List (Nat × Nat)} {qs qs' : List VP} {ps : List (Nat × Operand)} (h : Parts φ pl qs ps qs') : ∀ {arr : Array Value}, CellsV c arr qs →
    ∃ arr', Instr.fill (fun i => pl.toArray[i]?) arr (ps.map fun (i, x) => (i, a.eval x)) = some arr' ∧ CellsV c arr' qs' := by
  induction h with
  | nil => intro arr ha; exact ⟨arr, rfl, ha⟩
  | @cons qs rs qs' i o k x p ps hpl hx hc hk hb _ ih =>
    intro arr ha
    have hv := hc.vps (hf.opd hx)
    have hsz : (a.eval x).cells.size = k := by rw [← hk, hv.length]; simp
    have hb' := Nat.le_of_ble_eq_true hb
    obtain ⟨arr', h1, h2⟩ := ih (ha.set hv (by omega))
    exact ⟨arr', by rw [List.map_cons, fill_cons _ _ _ _ _ o k (by simpa using hpl) hsz (by rw [ha.1]; exact hb')]; exact h1, h2⟩

/-- a struct type: the places of its fields -/
class IsStruct (P : Program) (t : TypeId) (pl : outParam (List (Nat × Nat))) : Prop where
  u : ∃ fs : Array Field, P.underlying t = some (.struct fs) ∧ ∀ w, (fs.mapM fun (f : Field) => do pure (f.offset, ← sizeOf f.type)).run P w = .ok pl.toArray w

section
variable {P : Program} {n : Nat} {φ : Slots} {S : List HP} {d : Option Tmp} {ty : TypeId} {ps : String} {af : Array Edge} {g : Option (Nat × Bool)}

theorem VOp.build {t : TypeId} {pl : List (Nat × Nat)} {qs qs' : List VP} {lp : List (Nat × Operand)} [hs : IsStruct P t pl] [hz : IsNew P t qs] (hp : Parts φ pl qs lp qs') : VOp P n φ S ⟨d, .build t lp.toArray, ty, ps, af, g⟩ (vagg qs') := by
  refine ⟨fun c a hf hs' => ?_⟩
  obtain ⟨fs, hu, hm⟩ := hs.u
  obtain ⟨z, h1, h2⟩ := hz.z
  obtain ⟨arr', h3, h4⟩ := hp.fill hf (CellsV.of (h2 c))
  refine ⟨.agg arr', ?_, arr'.toList, by simp, h4.vps⟩
  intro w' hw'
  have hm' := hm w'
  simp only [bind_pure_comp] at hm'
  have h3' : Instr.fill (fun x => pl[x]?) z.cells (List.map (fun x => (x.fst, a.eval x.snd)) lp) = some arr' := by simpa using h3
  simp [execOp, Instr.build, h1, run_underlying hu, hm', h3']

/-- the elements of a slice literal -/
inductive Elts (φ : Slots) {α : Type} (r : α → List VP) : Nat → List (Nat × Operand) → List α → Prop
  | nil {m : Nat} : Elts φ r m [] []
  | cons {m : Nat} {x : Operand} {p : VP} {z : α} {ps : List (Nat × Operand)} {zs : List α} : opd φ x = some p → CellsOf p (r z) → Elts φ r (m + 1) ps zs → Elts φ r m ((m, x) :: ps) (z :: zs)

theorem Elts.length {α : Type} {r : α → List VP} {m : Nat} {lp : List (Nat × Operand)} {zs : List α} (h : Elts φ r m lp zs) : lp.length = zs.length := by
  induction h with
  | nil => rfl
  | cons _ _ _ ih => simp [ih]

theorem Elts.fill {α : Type} {r : α → List VP} {k : Nat} {c : Ctx} {a : Act} (hf : FH c n φ a) {m : Nat} {lp : List (Nat × Operand)} {zs : List α} (h : Elts φ r m lp zs) :
    (∀ z ∈ zs, (r z).length = k) → ∀ {arr : Array Value}, (m + zs.length) * k ≤ arr.size → ∃ arr', Instr.fill (fun i => some (i * k, k)) arr (lp.map fun (i, x) => (i, a.eval x)) = some arr' ∧ arr'.size = arr.size ∧ (∀ j, j < m * k → arr'[j]? = arr[j]?) ∧
      ∀ (i : Nat) (z : α), zs[i]? = some z → ∀ (j : Nat) (p : VP), (r z)[j]? = some p → ∃ v, arr'[(m + i) * k + j]? = some v ∧ p.p c v := by
  induction h with
  | nil => intro _ arr _; exact ⟨arr, rfl, rfl, fun _ _ => rfl, by simp⟩
  | @cons m x p z lp zs hx hc _ ih =>
    intro hk arr hsz
    have hv := hc.vps (hf.opd hx)
    have hl : (a.eval x).cells.size = k := by rw [← hk z (by simp), hv.length]; simp
    simp only [List.length_cons] at hsz
    have hfit : m * k + k ≤ arr.size := by
      calc m * k + k = (m + 1) * k := by rw [Nat.succ_mul]
        _ ≤ (m + (zs.length + 1)) * k := Nat.mul_le_mul_right _ (by omega)
        _ ≤ arr.size := hsz
    have hsz' : (m + 1 + zs.length) * k ≤ (setR arr (m * k) (a.eval x).cells.toList).size := by
      rw [setR_size]
      have : m + 1 + zs.length = m + (zs.length + 1) := by omega
      rw [this]; exact hsz
    obtain ⟨arr', h1, h2, h3, h4⟩ := ih (fun z hz => hk z (by simp [hz])) (arr := setR arr (m * k) (a.eval x).cells.toList) hsz'
    have hget : ∀ j, (setR arr (m * k) (a.eval x).cells.toList)[j]? = if m * k ≤ j ∧ j < m * k + k then (a.eval x).cells.toList[j - m * k]? else arr[j]? := fun j => by
      rw [setR_get _ _ _ _ (by simp [hl]; omega)]; simp [hl]
    refine ⟨arr', by rw [List.map_cons, fill_cons _ _ _ _ _ (m * k) k rfl hl hfit]; exact h1, by rw [h2, setR_size], fun j hj => ?_, fun i z' hz j q hq => ?_⟩
    · rw [h3 j (by rw [Nat.succ_mul]; omega), hget, if_neg (by omega)]
    · cases i with
      | zero =>
        simp only [List.getElem?_cons_zero, Option.some.injEq] at hz; subst hz
        have hj : j < k := by rw [← hk z (by simp)]; exact (List.getElem?_eq_some_iff.1 hq).1
        obtain ⟨v, h5, h6⟩ := hv.get j q hq
        refine ⟨v, ?_, h6⟩
        rw [Nat.add_zero, h3 _ (by rw [Nat.succ_mul]; omega), hget, if_pos ⟨by omega, by omega⟩, Nat.add_sub_cancel_left]; exact h5
      | succ i =>
        obtain ⟨v, h5, h6⟩ := h4 i z' (by simpa using hz) j q hq
        have : m + (i + 1) = m + 1 + i := by omega
        exact ⟨v, by rw [this]; exact h5, h6⟩

/-- a slice literal -/
theorem EOpS.slit {t e k by' len : Nat} {z : Value} [ht : IsSlM P t e k by' z] {α : Type} (r : α → List VP) (zs : List α) (hk : ∀ z ∈ zs, (r z).length = k) {lp : List (Nat × Operand)} (hp : Elts φ r 0 lp zs) (hl : len = zs.length) (hsm : Nat.ble (len * k) 16777216 = true) :
    EOpS P n φ S ⟨d, .buildSlice t len lp.toArray, ty, ps, af, g⟩ (fun q S' => ∃ b, q = vsb b len len ∧ S' = harr b k r zs (len * k) :: S) := by
  refine ⟨fun c a hf hs => ?_⟩
  subst hl
  obtain ⟨i, hu, hi, hz0, rfl, rfl, hzs, hk0⟩ := ht.ex
  let arr0 : Array Value := if zs.length * i.size = 0 then #[] else (Array.range (zs.length * i.size)).map (z.cells[· % z.cells.size]!)
  have h0 : arr0.size = zs.length * i.size := by
    show (if zs.length * i.size = 0 then _ else _ : Array Value).size = _
    split
    · simp [*]
    · simp
  obtain ⟨arr', h1, h2, _, h4⟩ := hp.fill hf hk (arr := arr0) (by rw [h0, Nat.zero_add]; exact Nat.le_refl _)
  obtain ⟨hl, hs'⟩ := hs.new (k := 0) (o := .cells arr' e (0, 0)) (h := harr c.w.heap.size i.size r zs (zs.length * i.size)) (fun hl => by
    refine ⟨rfl, ⟨_, _, newW_new, by rw [h2, h0], Nat.le_refl _⟩, fun m x hx => ⟨hk x (List.mem_of_getElem? hx), fun j p hp => ?_⟩⟩
    obtain ⟨v, h5, h6⟩ := h4 m x hx j p hp
    exact ⟨v, by rw [cell_row newW_new, Nat.zero_add]; simpa using h5, p.mono hl.v h6⟩)
  refine ⟨_, _, c.F, _, _, ?_, hl, ⟨fun b hb => newW_heap hb, by simp [newW]⟩, rfl, hs', _, rfl, rfl⟩
  have hz1 : (zeroValue e).run P c.w = .ok z c.w := by simp [zeroValue, typeInfo, hi, hz0]
  have hsm' : ¬ (16777216 < zs.length * i.size) := by have := Nat.le_of_ble_eq_true hsm; omega
  have h1' : Instr.fill (fun j => some (j * i.size, i.size)) arr0 (lp.map fun (j, x) => (j, a.eval x)) = some arr' := h1
  by_cases hzero : zs.length * i.size = 0
  · have hz0' : zs.length = 0 := (Nat.mul_eq_zero.1 hzero).resolve_right (by omega)
    have hlp : lp = [] := List.eq_nil_of_length_eq_zero (by rw [hp.length, hz0'])
    have harr : arr' = #[] := Array.eq_empty_of_size_eq_zero (by rw [h2, h0, hzero])
    subst hlp harr
    have hh : ∀ f : Nat → Value, Array.map f (Array.range 0) = #[] := fun f => Array.eq_empty_of_size_eq_zero (by simp)
    simp [execOp, Instr.buildSlice, run_underlying hu, run_sz hi, hz0', Instr.fill, newRow]
    rw [hh]; rfl
  · have e0 : arr0 = (Array.range (zs.length * i.size)).map (z.cells[· % z.cells.size]!) := by show (if _ then _ else _) = _; rw [if_neg hzero]
    rw [e0] at h1'
    have h1'' : Instr.fill (fun j => some (j * i.size, i.size)) ((Array.range (zs.length * i.size)).map fun x => z.cells[x % z.cells.size]!) (List.map (fun x => (x.fst, a.eval x.snd)) lp) = some arr' := by simpa using h1'
    simp only [execOp, Instr.buildSlice]
    simp only [Sem.run_bind, run_underlying hu, Result.andThen_ok, run_sz hi]
    rw [if_neg (by simpa using hsm'), if_neg hzero]
    simp only [Sem.run_bind, hz1, Result.andThen_ok, Sem.run_pure]
    simp [h1'', newRow]
    rfl

theorem EOpS.e {o : Oper} {R : VP → List HP → Prop} (h : EOpS P n φ S o R) : EOp P n φ S o R :=
  ⟨fun c a hf hs => let ⟨v, w', F', r, S', h1, h2, _, h4, h5, h6⟩ := h.run c a hf hs; ⟨v, w', F', r, S', h1, h2, h4, h5, h6⟩⟩
end
end Go.Proofs.YtemfpennomelaaaDoor

/- Owned trees: slices whose elements own memory of their own; borrowing owned memory for a call. Proved for every program P; conditions: small sizes. -/
namespace Go.Proofs.YtemfpennomelaaaDoor
open Go
set_option linter.unusedVariables false

/-- how an element is laid out: its cells and the blocks that it owns -/
structure TR (α : Type) where
  k : Nat
  p : Ctx → α → List Value → List Nat → Prop
  mono : ∀ {c c' : Ctx} {x : α} {vs : List Value} {f : List Nat}, c.leV c' → (∀ b ∈ f, c'.w.heap[b]? = c.w.heap[b]?) → p c x vs f → p c' x vs f
  len : ∀ {c : Ctx} {x : α} {vs : List Value} {f : List Nat}, p c x vs f → vs.length = k
  one : ∀ {c : Ctx} {x : α} {vs : List Value} {f : List Nat}, p c x vs f → ∀ v ∈ vs, v.oneCell' = true

/-- elements side by side -/
inductive Rows (c : Ctx) {α : Type} (t : TR α) : List α → List (List Value) → List (List Nat) → Prop
  | nil : Rows c t [] [] []
  | cons {x : α} {vs : List Value} {f : List Nat} {xs : List α} {vss : List (List Value)} {fss : List (List Nat)} : t.p c x vs f → Rows c t xs vss fss → Rows c t (x :: xs) (vs :: vss) (f :: fss)

theorem Rows.mono {c c' : Ctx} {α : Type} {t : TR α} (hl : c.leV c') {xs : List α} {vss : List (List Value)} {fss : List (List Nat)} (h : Rows c t xs vss fss) (hk : ∀ b ∈ fss.flatten, c'.w.heap[b]? = c.w.heap[b]?) : Rows c' t xs vss fss := by
  induction h with
  | nil => exact .nil
  | @cons x vs f xs vss fss hp _ ih =>
    refine .cons (t.mono hl (fun b hb => hk b (by simp [hb])) hp) (ih fun b hb => hk b ?_)
    simp only [List.flatten_cons, List.mem_append]; exact .inr hb

theorem Rows.append {c : Ctx} {α : Type} {t : TR α} {xs ys : List α} {vss wss : List (List Value)} {fss gss : List (List Nat)} (h : Rows c t xs vss fss) (k : Rows c t ys wss gss) : Rows c t (xs ++ ys) (vss ++ wss) (fss ++ gss) := by
  induction h with
  | nil => exact k
  | cons hp _ ih => exact .cons hp ih

theorem Rows.at {c : Ctx} {α : Type} {t : TR α} {xs : List α} {vss : List (List Value)} {fss : List (List Nat)} (h : Rows c t xs vss fss) : ∀ (i : Nat) (x : α), xs[i]? = some x →
    ∃ v1 vs v2 f1 f f2, vss = v1 ++ vs :: v2 ∧ fss = f1 ++ f :: f2 ∧ v1.length = i ∧ v1.flatten.length = i * t.k ∧ t.p c x vs f ∧ ∀ y ws g c', t.p c' y ws g → c.leV c' → (∀ b ∈ f1.flatten, c'.w.heap[b]? = c.w.heap[b]?) → (∀ b ∈ f2.flatten, c'.w.heap[b]? = c.w.heap[b]?) → Rows c' t (xs.set i y) (v1 ++ ws :: v2) (f1 ++ g :: f2) := by
  induction h with
  | nil => intro i x hx; simp at hx
  | @cons x0 vs f xs vss fss hp hr ih =>
    intro i x hx
    cases i with
    | zero =>
      simp only [List.getElem?_cons_zero, Option.some.injEq] at hx; subst hx
      exact ⟨[], vs, vss, [], f, fss, rfl, rfl, rfl, by simp, hp, fun y ws g c' hy hl _ h2 => .cons hy (hr.mono hl h2)⟩
    | succ i =>
      obtain ⟨v1, us, v2, f1, g, f2, rfl, rfl, h3, h4, h5, h6⟩ := ih i x (by simpa using hx)
      refine ⟨vs :: v1, us, v2, f :: f1, g, f2, rfl, rfl, by simp [h3], by simp only [List.flatten_cons, List.length_append, t.len hp, h4, Nat.succ_mul]; omega, h5, fun y ws g' c' hy hl h1 h2 => ?_⟩
      refine .cons (t.mono hl (fun b hb => h1 b (by simp [hb])) hp) (h6 y ws g' c' hy hl (fun b hb => h1 b ?_) h2)
      simp only [List.flatten_cons, List.mem_append]; exact .inr hb

/-- a slice value (nil if empty, perhaps) that owns its array and its elements -/
def ownS {α : Type} (t : TR α) (c : Ctx) (v : Value) (xs : List α) (f : List Nat) : Prop :=
  (xs = [] ∧ v = .slice none 0 0 ∧ f = []) ∨
  ∃ b cap arr tt vss fss, v = .slice (some ⟨b, 0, none⟩) xs.length cap ∧ c.w.heap[b]? = some (.cells arr tt (0, 0)) ∧ arr.size = cap * t.k ∧ xs.length ≤ cap ∧
    Rows c t xs vss fss ∧ arr.toList.take (xs.length * t.k) = vss.flatten ∧ f = b :: fss.flatten

theorem ownS.mono {α : Type} {t : TR α} {c c' : Ctx} {v : Value} {xs : List α} {f : List Nat} (hl : c.leV c') (hk : ∀ b ∈ f, c'.w.heap[b]? = c.w.heap[b]?) (h : ownS t c v xs f) : ownS t c' v xs f := by
  rcases h with h | ⟨b, cap, arr, tt, vss, fss, h1, h2, h3, h4, h5, h6, rfl⟩
  · exact .inl h
  · exact .inr ⟨b, cap, arr, tt, vss, fss, h1, (hk b (by simp)).trans h2, h3, h4, h5.mono hl (fun x hx => hk x (by simp only [List.mem_cons]; exact .inr hx)), h6, rfl⟩

theorem ownS.shape {α : Type} {t : TR α} {c : Ctx} {v : Value} {xs : List α} {f : List Nat} (h : ownS t c v xs f) : ∃ ao cap, v = .slice ao xs.length cap := by
  rcases h with ⟨rfl, rfl, _⟩ | ⟨b, cap, _, _, _, _, rfl, _⟩
  · exact ⟨none, 0, rfl⟩
  · exact ⟨_, cap, rfl⟩

def hsl {α : Type} (t : TR α) (v : Value) (xs : List α) : HP := ⟨fun c f => ownS t c v xs f, fun {_ _ _} hl hk h => h.mono hl hk⟩

/-- an element that owns its memory, its cells being vs -/
def hel {α : Type} (t : TR α) (x : α) (vs : List Value) : HP := ⟨fun c f => t.p c x vs f, fun {_ _ _} hl hk h => t.mono hl hk h⟩

/-! ### layouts -/
def tVal {α : Type} (r : α → Value) (h : ∀ x, (r x).oneCell' = true) : TR α :=
  ⟨1, fun _ x vs f => vs = [r x] ∧ f = [], fun _ _ h => h, fun h => by rw [h.1]; rfl, fun {_ x _ _} k v hv => by rw [k.1, List.mem_singleton] at hv; rw [hv]; exact h x⟩
def tInt : TR Int := tVal (fun x => .int .i64 x) (fun _ => rfl)
def tBool : TR Bool := tVal (fun x => .bool x) (fun _ => rfl)

/-- a slice as an element -/
def tS {α : Type} (t : TR α) : TR (List α) :=
  ⟨1, fun c xs vs f => ∃ v, vs = [v] ∧ ownS t c v xs f, fun {_ _ _ _ _} hl hk ⟨v, h1, h2⟩ => ⟨v, h1, h2.mono hl hk⟩, fun ⟨v, h, _⟩ => by rw [h]; rfl,
   fun ⟨v, h, h2⟩ u hu => by rw [h, List.mem_singleton] at hu; rw [hu]; obtain ⟨_, _, rfl⟩ := h2.shape; rfl⟩

/-- two parts of a struct -/
def tPair {α β : Type} (t : TR α) (u : TR β) : TR (α × β) :=
  ⟨t.k + u.k, fun c x vs f => ∃ v1 v2 f1 f2, vs = v1 ++ v2 ∧ f = f1 ++ f2 ∧ t.p c x.1 v1 f1 ∧ u.p c x.2 v2 f2,
   fun {_ _ _ _ _} hl hk ⟨v1, v2, f1, f2, h1, h2, h3, h4⟩ => ⟨v1, v2, f1, f2, h1, h2, t.mono hl (fun b hb => hk b (by rw [h2]; simp [hb])) h3, u.mono hl (fun b hb => hk b (by rw [h2]; simp [hb])) h4⟩,
   fun ⟨v1, v2, f1, f2, h1, h2, h3, h4⟩ => by rw [h1, List.length_append, t.len h3, u.len h4],
   fun ⟨v1, v2, f1, f2, h1, h2, h3, h4⟩ v hv => by rw [h1, List.mem_append] at hv; exact hv.elim (t.one h3 v) (u.one h4 v)⟩

/-- elements that own nothing -/
def tVP {α : Type} (k : Nat) (r : α → List VP) (hk : ∀ x, (r x).length = k) (h1 : OneR r) : TR α :=
  ⟨k, fun c x vs f => VPs c (r x) vs ∧ f = [], fun {_ _ _ _ _} hl _ h => ⟨h.1.mono hl, h.2⟩, fun h => by rw [← h.1.length, hk],
   fun {c x vs f} h v hv => by
    obtain ⟨j, hj⟩ := List.mem_iff_getElem?.1 hv
    have hlt : j < (r x).length := by rw [h.1.length]; exact (List.getElem?_eq_some_iff.1 hj).1
    obtain ⟨v', h2, h3⟩ := h.1.get j _ (List.getElem?_eq_getElem hlt)
    rw [hj] at h2; cases h2
    exact h1.one c v x _ (List.getElem_mem hlt) h3⟩

/-- an element whose memory is elsewhere for the time being -/
def tHole {α : Type} (t : TR α) : TR (α ⊕ List Value) :=
  ⟨t.k, fun c x vs f => match x with
    | .inl y => t.p c y vs f
    | .inr us => vs = us ∧ f = [] ∧ us.length = t.k ∧ ∀ v ∈ us, v.oneCell' = true,
   fun {_ _ x _ _} hl hk h => by cases x with | inl y => exact t.mono hl hk h | inr us => exact h,
   fun {_ x _ _} h => by
    cases x with
    | inl y => exact t.len h
    | inr us => rw [h.1]; exact h.2.2.1,
   fun {_ x _ _} h => by
    cases x with
    | inl y => exact t.one h
    | inr us => rw [h.1]; exact h.2.2.2⟩

theorem Rows.hole {c : Ctx} {α : Type} {t : TR α} {xs : List α} {vss : List (List Value)} {fss : List (List Nat)} (h : Rows c t xs vss fss) : Rows c (tHole t) (xs.map .inl) vss fss := by
  induction h with
  | nil => exact .nil
  | cons hp _ ih => exact .cons (t := tHole t) hp ih

theorem Rows.unhole {c : Ctx} {α : Type} {t : TR α} : ∀ {xs : List α} {vss : List (List Value)} {fss : List (List Nat)}, Rows c (tHole t) (xs.map .inl) vss fss → Rows c t xs vss fss
  | [], _, _, h => by cases h; exact .nil
  | x :: xs, _, _, h => by
    cases h with
    | cons hp hr => exact .cons hp (Rows.unhole hr)

/-! ### borrowing -/
/-- assertions that do not lean on what is frozen -/
class NF (p : VP) : Prop where
  nf : ∀ F F' U U' w v, p.p ⟨F, U, w⟩ v → p.p ⟨F', U', w⟩ v
class NFs (ps : List VP) : Prop where
  nf : ∀ p ∈ ps, ∀ F F' U U' w v, p.p ⟨F, U, w⟩ v → p.p ⟨F', U', w⟩ v
class NFT {α : Type} (t : TR α) : Prop where
  nf : ∀ F F' U U' w x vs f, t.p ⟨F, U, w⟩ x vs f → t.p ⟨F', U', w⟩ x vs f
class NFH (h : HP) : Prop where
  nf : ∀ F F' U U' w f, h.p ⟨F, U, w⟩ f → h.p ⟨F', U', w⟩ f
class NFHs (S : List HP) : Prop where
  nf : ∀ h ∈ S, ∀ F F' U U' w f, h.p ⟨F, U, w⟩ f → h.p ⟨F', U', w⟩ f
instance {v : Value} : NF (vlit v) := ⟨fun _ _ _ _ _ _ h => h⟩
instance : NFs [] := ⟨fun p hp => by cases hp⟩
instance {p : VP} {ps : List VP} [hp : NF p] [hs : NFs ps] : NFs (p :: ps) := ⟨fun q hq => by
  rcases List.mem_cons.1 hq with rfl | hq
  · exact hp.nf
  · exact hs.nf q hq⟩
theorem VPs.nf {ps : List VP} [h : NFs ps] {F F' U U' : Nat → Prop} {w : World} {vs : List Value} (k : VPs ⟨F, U, w⟩ ps vs) : VPs ⟨F', U', w⟩ ps vs := by
  have h' := h.nf
  clear h
  induction k with
  | nil => exact .nil
  | cons hp _ ih => exact .cons (h' _ (by simp) _ _ _ _ _ _ hp) (ih fun p hp => h' p (by simp [hp]))
instance {ps : List VP} [NFs ps] : NF (vtup ps) := ⟨fun _ _ _ _ _ _ h => by obtain ⟨vs, h1, h2⟩ := h; exact ⟨vs, h1, h2.nf⟩⟩
instance {ps : List VP} [NFs ps] : NF (vagg ps) := ⟨fun _ _ _ _ _ _ h => by obtain ⟨vs, h1, h2⟩ := h; exact ⟨vs, h1, h2.nf⟩⟩
instance {α : Type} {r : α → Value} {h : ∀ x, (r x).oneCell' = true} : NFT (tVal r h) := ⟨fun _ _ _ _ _ _ _ _ h => h⟩
instance : NFT tInt := ⟨fun _ _ _ _ _ _ _ _ h => h⟩
instance : NFT tBool := ⟨fun _ _ _ _ _ _ _ _ h => h⟩
theorem Rows.nf {α : Type} {t : TR α} [ht : NFT t] {F F' U U' : Nat → Prop} {w : World} {xs : List α} {vss : List (List Value)} {fss : List (List Nat)} (h : Rows ⟨F, U, w⟩ t xs vss fss) : Rows ⟨F', U', w⟩ t xs vss fss := by
  induction h with
  | nil => exact .nil
  | cons hp _ ih => exact .cons (ht.nf _ _ _ _ _ _ _ _ hp) ih
theorem ownS.nf {α : Type} {t : TR α} [NFT t] {F F' U U' : Nat → Prop} {w : World} {v : Value} {xs : List α} {f : List Nat} (h : ownS t ⟨F, U, w⟩ v xs f) : ownS t ⟨F', U', w⟩ v xs f := by
  rcases h with h | ⟨b, cap, arr, tt, vss, fss, h1, h2, h3, h4, h5, h6, h7⟩
  · exact .inl h
  · exact .inr ⟨b, cap, arr, tt, vss, fss, h1, h2, h3, h4, h5.nf, h6, h7⟩
instance {α : Type} {t : TR α} [NFT t] : NFT (tS t) := ⟨fun _ _ _ _ _ _ _ _ h => by obtain ⟨v, h1, h2⟩ := h; exact ⟨v, h1, h2.nf⟩⟩
instance {α β : Type} {t : TR α} {u : TR β} [ht : NFT t] [hu : NFT u] : NFT (tPair t u) := ⟨fun _ _ _ _ _ _ _ _ h => by
  obtain ⟨v1, v2, f1, f2, h1, h2, h3, h4⟩ := h
  exact ⟨v1, v2, f1, f2, h1, h2, ht.nf _ _ _ _ _ _ _ _ h3, hu.nf _ _ _ _ _ _ _ _ h4⟩⟩
instance {α : Type} {t : TR α} {v : Value} {xs : List α} [NFT t] : NFH (hsl t v xs) := ⟨fun _ _ _ _ _ _ h => ownS.nf h⟩
instance {b k : Nat} {α : Type} {r : α → List VP} {xs : List α} {sz : Nat} [h : ∀ x, NFs (r x)] : NFH (harr b k r xs sz) := ⟨fun F F' U U' w f hh => by
  obtain ⟨h1, h2, h3⟩ := hh
  exact ⟨h1, h2, fun i x hx => ⟨(h3 i x hx).1, fun j p hp => by
    obtain ⟨v, h4, h5⟩ := (h3 i x hx).2 j p hp
    exact ⟨v, h4, (h x).nf p (List.mem_of_getElem? hp) _ _ _ _ _ _ h5⟩⟩⟩⟩
instance : NFHs [] := ⟨fun p hp => by cases hp⟩
instance {h : HP} {S : List HP} [hp : NFH h] [hs : NFHs S] : NFHs (h :: S) := ⟨fun q hq => by
  rcases List.mem_cons.1 hq with rfl | hq
  · exact hp.nf
  · exact hs.nf q hq⟩

/-- a contract over frozen arguments serves where the arguments are owned: they are lent for the call -/
theorem Spec.lendS {P : Program} {f : FuncId} {ps qs : List VP} {B S : List HP} {R : VP → List HP → Prop} (h : Spec P f qs [] R)
    (hlend : ∀ c vs fs, Args c ps vs → All c B fs → (∀ b ∈ fs.flatten, c.F b) → Args c qs vs) (hR : ∀ r H, R r H → NF r ∧ NFHs H) :
    SpecS P f ps (B ++ S) (fun r S' => ∃ H, R r H ∧ S' = H ++ (B ++ S)) := by
  refine ⟨fun c vs ha ⟨fs, hs⟩ => ?_⟩
  obtain ⟨gB, gS, rfl, hB, hS⟩ := hs.all.split
  obtain ⟨_, hnd, hown, hfro, hdis⟩ := hs
  rw [List.flatten_append] at hnd hown
  simp only [List.mem_append] at hown
  have hndB := (List.nodup_append.1 hnd)
  let c0 : Ctx := ⟨fun b => c.F b ∨ b ∈ gB.flatten, fun b => b < c.w.heap.size ∧ ¬ (c.F b ∨ b ∈ gB.flatten), c.w⟩
  have hv0 : c.leV c0 := ⟨fun _ h => .inl h, fun _ _ => rfl⟩
  have ha0 : Args c0 qs vs := hlend c0 vs gB (ha.mono hv0) (hB.keep hv0 fun _ _ => rfl) (fun b hb => .inr hb)
  have hs0 : SH c0 [] := ⟨[], .nil, by simp, by simp, fun b hb => by
    rcases hb with (hb | hb) | hb
    · exact hfro b (.inl hb)
    · exact (hown b (.inl hb)).2.2
    · exact hb.1, fun b hb hu => hu.2 hb⟩
  refine (h.run c0 vs ha0 hs0).mono fun e w' ⟨v, F', r, H, he, hl, hr, ⟨gs, hg⟩, hRr⟩ => ?_
  obtain ⟨hnr, hnH⟩ := hR r H hRr
  have hsame : ∀ b, b < c.w.heap.size → w'.heap[b]? = c.w.heap[b]? := fun b hb => by
    by_cases hF : c.F b ∨ b ∈ gB.flatten
    · exact hl.heap b (.inl hF)
    · exact hl.heap b (.inr ⟨hb, hF⟩)
  let F2 : Nat → Prop := fun b => F' b ∧ b ∉ gB.flatten
  have hl' : c.le ⟨F2, c.U, w'⟩ := ⟨fun b hb => ⟨hl.fr b (.inl hb), fun hm => (hown b (.inl hm)).1 hb⟩, rfl, fun b hb => hsame b (hfro b hb), hl.size, hl.os, hl.tape, hl.output⟩
  have hnew : ∀ b ∈ gs.flatten, c.w.heap.size ≤ b := fun b hb => by
    have := hg.own b hb
    apply Classical.byContradiction
    intro hlt
    by_cases hF : c.F b ∨ b ∈ gB.flatten
    · exact this.1 (hl.fr b hF)
    · exact this.2.1 ⟨by omega, hF⟩
  have hallH : All ⟨F2, c.U, w'⟩ H gs := by
    have := hg.all
    have hn := hnH.nf
    clear hg hnew hnH hRr
    induction this with
    | nil => exact .nil
    | cons hp _ ih => exact .cons (hn _ (by simp) _ _ _ _ _ _ hp) (ih (fun h hh => hn h (by simp [hh])))
  refine ⟨v, F2, r, H ++ (B ++ S), he, hl', ⟨hsame, hl.size⟩, hnr.nf _ _ _ _ _ _ hr, ⟨gs ++ (gB ++ gS), ?_, ?_, ?_, ?_, ?_⟩, H, hRr, rfl⟩
  · exact hallH.append ((hB.keep hl'.v fun b hb => hsame b (hown b (.inl hb)).2.2).append (hS.keep hl'.v fun b hb => hsame b (hown b (.inr hb)).2.2))
  · rw [List.flatten_append, List.flatten_append, List.nodup_append]
    refine ⟨hg.nodup, hnd, ?_⟩
    rintro x hx y hy rfl
    have := hnew x hx; have := (hown x (by simpa using hy)).2.2; omega
  · intro b hb
    rw [List.flatten_append, List.flatten_append, List.mem_append, List.mem_append] at hb
    rcases hb with hb | hb | hb
    · exact ⟨fun h => (hg.own b hb).1 h.1, fun hu => by have := hfro b (.inr hu); have := hnew b hb; omega, (hg.own b hb).2.2⟩
    · exact ⟨fun h => h.2 hb, (hown b (.inl hb)).2.1, Nat.lt_of_lt_of_le (hown b (.inl hb)).2.2 hl.size⟩
    · refine ⟨fun h => hg.dis b h.1 ⟨(hown b (.inr hb)).2.2, ?_⟩, (hown b (.inr hb)).2.1, Nat.lt_of_lt_of_le (hown b (.inr hb)).2.2 hl.size⟩
      rintro (h1 | h1)
      · exact (hown b (.inr hb)).1 h1
      · exact hndB.2.2 b h1 b hb rfl
  · rintro b (hb | hb)
    · exact hg.fro b (.inl hb.1)
    · exact Nat.lt_of_lt_of_le (hfro b (.inr hb)) hl.size
  · rintro b ⟨hb, hm⟩ hu
    by_cases hF : c.F b
    · exact hdis b hF hu
    · exact hg.dis b hb ⟨hfro b (.inr hu), fun h => h.elim hF hm⟩

/-- a layout and its frozen reading -/
class Frz {α : Type} (t : TR α) (r : outParam (α → List VP)) : Prop where
  frz : ∀ c x vs f, t.p c x vs f → (∀ b ∈ f, c.F b) → VPs c (r x) vs
@[reducible] def ri : Int → List VP := fun x => [vint x]
@[reducible] def rb : Bool → List VP := fun x => [vbool x]
instance : Frz tInt ri := ⟨fun c x vs f h _ => by rw [h.1]; exact .cons rfl .nil⟩
instance : Frz tBool rb := ⟨fun c x vs f h _ => by rw [h.1]; exact .cons rfl .nil⟩

theorem Rows.elems {c : Ctx} {α : Type} {t : TR α} {r : α → List VP} [hf : Frz t r] {xs : List α} {vss : List (List Value)} {fss : List (List Nat)} (h : Rows c t xs vss fss) (hF : ∀ b ∈ fss.flatten, c.F b) :
    ∀ (i : Nat) (x : α), xs[i]? = some x → (r x).length = t.k ∧ ∀ j p, (r x)[j]? = some p → ∃ v, vss.flatten[i * t.k + j]? = some v ∧ p.p c v := by
  induction h with
  | nil => intro i x hx; simp at hx
  | @cons x0 vs f xs vss fss hp hr ih =>
    intro i x hx
    have hlen := t.len hp
    cases i with
    | zero =>
      simp only [List.getElem?_cons_zero, Option.some.injEq] at hx; subst hx
      have hv := hf.frz c _ vs f hp (fun b hb => hF b (by simp [hb]))
      refine ⟨by rw [hv.length, hlen], fun j p hq => ?_⟩
      obtain ⟨v, h1, h2⟩ := hv.get j p hq
      refine ⟨v, ?_, h2⟩
      have hj := (List.getElem?_eq_some_iff.1 h1).1
      simp only [Nat.zero_mul, Nat.zero_add, List.flatten_cons]
      rw [List.getElem?_append_left hj]; exact h1
    | succ i =>
      obtain ⟨h1, h2⟩ := ih (fun b hb => hF b (by simp only [List.flatten_cons, List.mem_append]; exact .inr hb)) i x (by simpa using hx)
      refine ⟨h1, fun j p hq => ?_⟩
      obtain ⟨v, h3, h4⟩ := h2 j p hq
      refine ⟨v, ?_, h4⟩
      simp only [List.flatten_cons]
      rw [List.getElem?_append_right (by rw [hlen, Nat.succ_mul]; omega), hlen]
      have : (i + 1) * t.k + j - t.k = i * t.k + j := by rw [Nat.succ_mul]; omega
      rw [this]; exact h3

theorem ownS.frz {c : Ctx} {α : Type} {t : TR α} {r : α → List VP} [Frz t r] {v : Value} {xs : List α} {f : List Nat} (h : ownS t c v xs f) (hF : ∀ b ∈ f, c.F b) : (vsl t.k r xs).p c v := by
  rcases h with ⟨rfl, rfl, _⟩ | ⟨b, cap, arr, tt, vss, fss, rfl, h2, h3, h4, h5, h6, rfl⟩
  · exact ⟨none, 0, 0, rfl, rfl, .inl rfl⟩
  · refine ⟨_, _, cap, rfl, rfl, .inr ⟨b, 0, rfl, hF b (by simp), h4, fun i x hx => ?_⟩⟩
    obtain ⟨h7, h8⟩ := h5.elems (r := r) (fun x hx => hF x (by simp only [List.mem_cons]; exact .inr hx)) i x hx
    refine ⟨h7, fun j p hp => ?_⟩
    obtain ⟨u, h9, h10⟩ := h8 j p hp
    refine ⟨u, ?_, h10⟩
    rw [Nat.zero_add, cell_row h2]
    have hlt := (List.getElem?_eq_some_iff.1 h9).1
    rw [← h6] at h9 hlt
    rw [List.getElem?_take] at h9
    split at h9
    · simpa using h9
    · cases h9
instance {α : Type} {t : TR α} {r : α → List VP} [Frz t r] : Frz (tS t) (fun xs => [vsl t.k r xs]) := ⟨fun c x vs f h hF => by
  obtain ⟨v, rfl, h2⟩ := h
  exact .cons (h2.frz hF) .nil⟩
theorem VPs.append {c : Ctx} {ps qs : List VP} {vs ws : List Value} (h : VPs c ps vs) (k : VPs c qs ws) : VPs c (ps ++ qs) (vs ++ ws) := by
  induction h with
  | nil => exact k
  | cons hp _ ih => exact .cons hp ih
instance {α β : Type} {t : TR α} {u : TR β} {r : α → List VP} {s : β → List VP} [ht : Frz t r] [hu : Frz u s] : Frz (tPair t u) (fun x => r x.1 ++ s x.2) := ⟨fun c x vs f h hF => by
  obtain ⟨v1, v2, f1, f2, rfl, rfl, h3, h4⟩ := h
  exact (ht.frz c _ _ _ h3 (fun b hb => hF b (by simp [hb]))).append (hu.frz c _ _ _ h4 (fun b hb => hF b (by simp [hb])))⟩
end Go.Proofs.YtemfpennomelaaaDoor

/- Rules on owned slices (nil if empty, perhaps): length, elements, stores, append of an owned element, calls that borrow. Proved for every program P; conditions: indices in bounds, small sizes. -/
namespace Go.Proofs.YtemfpennomelaaaDoor
open Go
set_option linter.unusedVariables false

/-- the address of cell o of element i of a slice value -/
def eptr (v : Value) (m : Nat) : Value :=
  match v with
  | .slice (some a) _ _ => .pointer (some ⟨a.block, a.off + m, none⟩)
  | _ => .pointer none
def vep (v : Value) (k i o : Nat) : VP := vlit (eptr v (i * k + o))

/-- some chunks of S, and the rest -/
inductive Pick : List HP → List HP → List HP → Prop
  | nil {S : List HP} : Pick S [] S
  | cons {S S1 B S0 : List HP} {h : HP} : Rem S h S1 → Pick S1 B S0 → Pick S (h :: B) S0

theorem Pick.sh {S B S0 : List HP} (p : Pick S B S0) : ∀ {c : Ctx} {fs : List (List Nat)}, SHf c S fs → ∃ gs, SHf c (B ++ S0) gs ∧ ∀ b, b ∈ gs.flatten ↔ b ∈ fs.flatten := by
  induction p with
  | nil => intro c fs hs; exact ⟨fs, hs, fun _ => .rfl⟩
  | @cons S S1 B S0 h r _ ih =>
    intro c fs hs
    obtain ⟨A, C, rfl, rfl⟩ := r.split
    obtain ⟨f1, f, f2, rfl, h1, h2, h3⟩ := hs.middle
    obtain ⟨_, hnd, hown, hfro, hdis⟩ := hs
    have hs' : SHf c (h :: (A ++ C)) (f :: (f1 ++ f2)) := by
      refine ⟨.cons h2 (h1.append h3), ?_, ?_, hfro, hdis⟩
      · simp only [List.flatten_cons, List.flatten_append, List.nodup_append, List.mem_append] at hnd ⊢
        obtain ⟨hn1, ⟨hnf, hn2, hd2⟩, hd1⟩ := hnd
        refine ⟨hnf, ⟨hn1, hn2, fun x hx y hy => hd1 x hx y (.inr hy)⟩, ?_⟩
        rintro x hx y (hy | hy)
        · exact fun e => hd1 y hy x (.inl hx) e.symm
        · exact hd2 x hx y hy
      · intro b hb
        simp only [List.flatten_cons, List.flatten_append, List.mem_append] at hb hown
        refine hown b ?_
        rcases hb with h | h | h
        · exact .inr (.inl h)
        · exact .inl h
        · exact .inr (.inr h)
    obtain ⟨gs, hg, hsub⟩ := ih hs'.tail
    refine ⟨f :: gs, hs'.cons_of hg (fun b hb => (hsub b).1 hb), fun b => ?_⟩
    simp only [List.flatten_cons, List.mem_append, List.flatten_append, hsub]
    constructor
    · rintro (h | h | h)
      · exact .inr (.inl h)
      · exact .inl h
      · exact .inr (.inr h)
    · rintro (h | h | h)
      · exact .inr (.inl h)
      · exact .inl h
      · exact .inr (.inr h)

/-- v[:i], of a slice value -/
def cutV (v : Value) (i : Nat) : Value := match v with
  | .slice a _ m => .slice a i m
  | u => u
/-- how an owned argument reads while it is lent -/
inductive LV (B : List HP) : VP → VP → Prop
  | sl {α : Type} {t : TR α} {r : α → List VP} {v : Value} {xs : List α} {k : Nat} [Frz t r] : Has B (hsl t v xs) → t.k = k → LV B (vlit v) (vsl k r xs)
  | arr {b len cap k : Nat} {α : Type} {r : α → List VP} {xs : List α} : Has B (harr b k r xs (cap * k)) → len = xs.length → Nat.ble 1 k = true → LV B (vsb b len cap) (vsl k r xs)
  | cut {α : Type} {t : TR α} {r : α → List VP} {v : Value} {xs : List α} {k i : Nat} [Frz t r] : Has B (hsl t v xs) → t.k = k → i ≤ xs.length → LV B (vlit (cutV v i)) (vsl k r (xs.take i))
  | refl {p : VP} : LV B p p
inductive LVs (B : List HP) : List VP → List VP → Prop
  | nil : LVs B [] []
  | cons {p q : VP} {ps qs : List VP} : LV B p q → LVs B ps qs → LVs B (p :: ps) (q :: qs)
  | agg {rs ss ps qs : List VP} : LVs B rs ss → LVs B ps qs → LVs B (vagg rs :: ps) (vagg ss :: qs)

theorem LV.p {B : List HP} {p q : VP} (h : LV B p q) {c : Ctx} {fs : List (List Nat)} (hB : All c B fs) (hF : ∀ b ∈ fs.flatten, c.F b) {v : Value} (hp : p.p c v) : q.p c v := by
  cases h with
  | @sl α t r v' xs k _ hh hk =>
    obtain ⟨f, hf, h1⟩ := hh.get hB
    cases hp; subst hk
    exact ownS.frz h1 (fun b hb => hF b (List.mem_flatten.2 ⟨f, hf, hb⟩))
  | @arr b len cap k α r xs hh hl hk =>
    have : Pos k := ⟨Nat.le_of_ble_eq_true hk⟩
    obtain ⟨f, hf, rfl, ⟨_, _, _, _, hfit⟩, hE⟩ := hh.get hB
    cases hp
    exact ⟨_, len, cap, rfl, hl, .inr ⟨b, 0, rfl, hF b (List.mem_flatten.2 ⟨[b], hf, by simp⟩), cap_of hfit, hE⟩⟩
  | @cut α t r v' xs k i _ hh hk hi =>
    obtain ⟨f, hf, h1⟩ := hh.get hB
    cases hp; subst hk
    obtain ⟨ao, len, cap, rfl, hl, h2⟩ := ownS.frz h1 (fun b hb => hF b (List.mem_flatten.2 ⟨f, hf, hb⟩))
    refine ⟨ao, i, cap, rfl, by simp; omega, ?_⟩
    rcases h2 with rfl | ⟨b, o, rfl, h3, hcp, h4⟩
    · exact .inl (by simp)
    · exact .inr ⟨b, o, rfl, h3, by simp; omega, fun j x hx => h4 j x (by rw [List.getElem?_take] at hx; split at hx <;> simp_all)⟩
  | refl => exact hp

theorem LVs.vps {B : List HP} {ps qs : List VP} (h : LVs B ps qs) {c : Ctx} {fs : List (List Nat)} (hB : All c B fs) (hF : ∀ b ∈ fs.flatten, c.F b) : ∀ {vs : List Value}, VPs c ps vs → VPs c qs vs := by
  induction h with
  | nil => exact fun h => h
  | cons h _ ih => intro vs hv; cases hv with | cons hp hr => exact .cons (h.p hB hF hp) (ih hr)
  | agg _ _ ih1 ih2 =>
    intro vs hv
    cases hv with
    | cons hp hr =>
      obtain ⟨ws, h1, h2⟩ := hp
      exact .cons ⟨ws, h1, ih1 h2⟩ (ih2 hr)

theorem Args.vps {c : Ctx} {ps : List VP} {vs : List Value} : Args c ps vs ↔ VPs c ps vs := by
  constructor
  · intro h; induction h with
    | nil => exact .nil
    | cons hp _ ih => exact .cons hp ih
  · intro h; induction h with
    | nil => exact .nil
    | cons hp _ ih => exact .cons hp ih

section
variable {P : Program} {n : Nat} {ops : Array Oper} {o : Oper} {l : List Oper} {K : Slots → List HP → Prop} {φ : Slots} {S : List HP}

theorem Spec.borrowS {f : FuncId} {ps qs : List VP} {B S0 : List HP} {R : VP → List HP → Prop} (hp : Pick S B S0) (hL : LVs B ps qs) (hv : Spec P f qs [] R) (hR : ∀ r H, R r H → NF r ∧ NFHs H) :
    SpecS P f ps S (fun r S' => ∃ H, R r H ∧ S' = H ++ (B ++ S0)) :=
  ⟨fun c vs ha ⟨fs, hs⟩ => by
    obtain ⟨gs, hg, _⟩ := hp.sh hs
    exact (hv.lendS (ps := ps) (B := B) (S := S0) (fun c vs fs ha hB hF => Args.vps.2 (hL.vps hB hF (Args.vps.1 ha))) hR).run c vs ha ⟨gs, hg⟩⟩

theorem Spec.borrow {f : FuncId} {ps qs : List VP} {B S0 : List HP} {R : VP → List HP → Prop} (hp : Pick S B S0) (hL : LVs B ps qs) (hv : Spec P f qs [] R) (hR : ∀ r H, R r H → NF r ∧ NFHs H) :
    Spec P f ps S (fun r S' => ∃ H, R r H ∧ S' = H ++ (B ++ S0)) := (Spec.borrowS hp hL hv hR).spec

/-- a call that borrows -/
theorem RH.callB {d : Nat} {f : FuncId} {xs : List Operand} {ts : Array TypeId} {ps qs : List VP} {B S0 : List HP} {R : VP → List HP → Prop} (ho : o.op = .call ⟨.value (.func f), xs.toArray, ts⟩) (hd : o.dst = some d)
    (hn : Nat.blt d n = true) (he : Enters P f) (ha : Opds φ xs ps) (hp : Pick S B S0) (hL : LVs B ps qs) (hv : Spec P f qs [] R) (hR : ∀ r H, R r H → NF r ∧ NFHs H) (h : ∀ r H, R r H → RL P n ops l K ((d, r) :: φ) (H ++ (B ++ S0))) : RH P n ops o l K φ S :=
  RH.call ho hd hn he ha (Spec.borrow hp hL hv hR) (fun r S' ⟨H, hr, e⟩ => e ▸ h r H hr)

/-- a call that borrows, in a region that draws its order -/
theorem RO.callB {id : Nat} {W : Nat → Bool} {m : Nat} {listed : Array Bool} {d : Nat} {f : FuncId} {xs : List Operand} {ts : Array TypeId} {ps qs : List VP} {B S0 : List HP} {R : VP → List HP → Prop} (i : Nat) (l' : Array Bool) (hi : ops[i]? = some o) (hl : listed.setIfInBounds i true = l')
    (hw : Wants n ops φ o true) (hd : o.dst = some d) (hn : Nat.blt d n = true) (ho : o.op = .call ⟨.value (.func f), xs.toArray, ts⟩) (he : Enters P f) (ha : Opds φ xs ps) (hp : Pick S B S0) (hL : LVs B ps qs) (hv : Spec P f qs [] R) (hR : ∀ r H, R r H → NF r ∧ NFHs H)
    (h : ∀ r H, R r H → RD P n id ops W K m l' ((d, r) :: φ) (H ++ (B ++ S0))) : RO P n id ops W K m listed i φ S :=
  RO.callS i l' hi hl hw hd hn ho he ha (Spec.borrowS hp hL hv hR) (fun r S' ⟨H, hr, e⟩ => e ▸ h r H hr)

/-- a call by a contract over some owned memory, beside the rest -/
theorem Spec.some {f : FuncId} {ps : List VP} {B S0 : List HP} {R : VP → List HP → Prop} (hp : Pick S B S0) (hv : Spec P f ps B R) : Spec P f ps S (fun r S' => ∃ H, R r H ∧ S' = H ++ S0) := by
  refine ⟨fun c vs ha ⟨fs, hs⟩ => ?_⟩
  obtain ⟨gs, hg, _⟩ := hp.sh hs
  obtain ⟨gB, gS, rfl, hB, hS⟩ := hg.all.split
  obtain ⟨_, hnd, hown, hfro, hdis⟩ := hg
  rw [List.flatten_append] at hnd hown
  simp only [List.mem_append] at hown
  have hndB := (List.nodup_append.1 hnd)
  let c1 : Ctx := ⟨c.F, fun b => b < c.w.heap.size ∧ ¬ c.F b ∧ b ∉ gB.flatten, c.w⟩
  have hv1 : c.leV c1 := ⟨fun _ h => h, fun _ _ => rfl⟩
  have hs1 : SH c1 B := ⟨gB, hB.keep hv1 fun _ _ => rfl, hndB.1, fun b hb => ⟨(hown b (.inl hb)).1, fun h => h.2.2 hb, (hown b (.inl hb)).2.2⟩, fun b hb => hb.elim (fun h => hfro b (.inl h)) (fun h => h.1), fun b hb hu => hu.2.1 hb⟩
  refine (hv.run c1 vs (ha.mono hv1) hs1).mono fun e w' ⟨v, F', r, H, he, hl, hr, ⟨hs', hgH⟩, hR⟩ => ?_
  have hsame : ∀ b, b < c.w.heap.size → b ∉ gB.flatten → w'.heap[b]? = c.w.heap[b]? := fun b hb hm => by
    by_cases hF : c.F b
    · exact hl.heap b (.inl hF)
    · exact hl.heap b (.inr ⟨hb, hF, hm⟩)
  have hnB : ∀ b, c.F b ∨ c.U b → b ∉ gB.flatten := fun b hb hm => hb.elim (hown b (.inl hm)).1 (hown b (.inl hm)).2.1
  have hl' : c.le ⟨F', c.U, w'⟩ := ⟨hl.fr, rfl, fun b hb => hsame b (hfro b hb) (hnB b hb), hl.size, hl.os, hl.tape, hl.output⟩
  have hv' : (⟨F', c1.U, w'⟩ : Ctx).leV ⟨F', c.U, w'⟩ := ⟨fun _ h => h, fun _ _ => rfl⟩
  have hSkeep : ∀ b ∈ gS.flatten, w'.heap[b]? = c.w.heap[b]? := fun b hb => hsame b (hown b (.inr hb)).2.2 (fun hm => hndB.2.2 b hm b hb rfl)
  have hSF : ∀ b ∈ gS.flatten, ¬ F' b := fun b hb hF' => hgH.dis b hF' ⟨(hown b (.inr hb)).2.2, (hown b (.inr hb)).1, fun hm => hndB.2.2 b hm b hb rfl⟩
  have hHnew : ∀ b ∈ hs'.flatten, b ∈ gB.flatten ∨ c.w.heap.size ≤ b := fun b hb => by
    have := hgH.own b hb
    by_cases hm : b ∈ gB.flatten
    · exact .inl hm
    · refine .inr ?_
      apply Classical.byContradiction
      intro hlt
      by_cases hF : c.F b
      · exact this.1 (hl.fr b hF)
      · exact this.2.1 ⟨by omega, hF, hm⟩
  refine ⟨v, F', r, H ++ S0, he, hl', r.mono hv' hr, ⟨hs' ++ gS, ?_, ?_, ?_, ?_, ?_⟩, H, hR, rfl⟩
  · exact (hgH.all.keep hv' fun _ _ => rfl).append (hS.keep hl'.v hSkeep)
  · rw [List.flatten_append, List.nodup_append]
    refine ⟨hgH.nodup, hndB.2.1, ?_⟩
    rintro x hx y hy rfl
    rcases hHnew x hx with h | h
    · exact hndB.2.2 x h x hy rfl
    · have := (hown x (.inr hy)).2.2; omega
  · intro b hb
    rw [List.flatten_append, List.mem_append] at hb
    rcases hb with hb | hb
    · refine ⟨(hgH.own b hb).1, fun hu => ?_, (hgH.own b hb).2.2⟩
      rcases hHnew b hb with h | h
      · exact (hown b (.inl h)).2.1 hu
      · have := hfro b (.inr hu); omega
    · exact ⟨hSF b hb, (hown b (.inr hb)).2.1, Nat.lt_of_lt_of_le (hown b (.inr hb)).2.2 hl.size⟩
  · rintro b (hb | hb)
    · exact hgH.fro b (.inl hb)
    · exact Nat.lt_of_lt_of_le (hfro b (.inr hb)) hl.size
  · intro b hb hu
    by_cases hF : c.F b
    · exact hdis b hF hu
    · exact hgH.dis b hb ⟨hfro b (.inr hu), hF, hnB b (.inr hu)⟩

/-- a call that may write some of what is owned -/
theorem RH.callW {d : Nat} {f : FuncId} {xs : List Operand} {ts : Array TypeId} {ps : List VP} {B S0 : List HP} {R : VP → List HP → Prop} (ho : o.op = .call ⟨.value (.func f), xs.toArray, ts⟩) (hd : o.dst = some d)
    (hn : Nat.blt d n = true) (he : Enters P f) (ha : Opds φ xs ps) (hp : Pick S B S0) (hv : Spec P f ps B R) (h : ∀ r H, R r H → RL P n ops l K ((d, r) :: φ) (H ++ S0)) : RH P n ops o l K φ S :=
  RH.call ho hd hn he ha (Spec.some hp hv) (fun r S' ⟨H, hr, e⟩ => e ▸ h r H hr)
end

section
variable {P : Program} {n : Nat} {φ : Slots} {S : List HP} {d : Option Tmp} {ty : TypeId} {ps : String} {af : Array Edge} {g : Option (Nat × Bool)}

theorem VOp.lenH {t e k' : TypeId} [ht : IsSl P t e k'] {α : Type} {tr : TR α} {v : Value} {xs : List α} {x : Operand} (hx : opd φ x = some (vlit v)) (hh : Has S (hsl tr v xs)) :
    VOp P n φ S ⟨d, .call ⟨.builtin .len, #[x], #[t]⟩, ty, ps, af, g⟩ (vint (xs.length : Int)) := by
  refine ⟨fun c a hf ⟨fs, hs⟩ => ?_⟩
  have h1 : a.eval x = v := hf.opd hx
  obtain ⟨f, _, hp⟩ := hh.get hs.all
  obtain ⟨ao, cap, rfl⟩ := ownS.shape hp
  exact ⟨.int .i64 (xs.length : Int), by intro w' hw'; simp [execOp, resolve, invoke, builtin, Builtin.len_, h1, goInt, run_underlying ht.u], rfl⟩

theorem VOp.indexH {t e k : Nat} [ht : IsSl P t e k] {α : Type} {tr : TR α} {v : Value} {xs : List α} {x y : Operand} {i : Int} (hx : opd φ x = some (vlit v)) (hh : Has S (hsl tr v xs)) (hy : opd φ y = some (vint i))
    (h0 : 0 ≤ i) (hi : i.toNat < xs.length) : VOp P n φ S ⟨d, .indexAddr t x y, ty, ps, af, g⟩ (vep v k i.toNat 0) := by
  refine ⟨fun c a hf ⟨fs, hs⟩ => ?_⟩
  have h1 : a.eval x = v := hf.opd hx
  have hy' : a.eval y = .int .i64 i := hf.opd hy
  obtain ⟨f, _, hp⟩ := hh.get hs.all
  rcases hp with ⟨rfl, _, _⟩ | ⟨b, cap, arr, tt, vss, fss, rfl, _⟩
  · simp at hi
  · refine ⟨.pointer (some ⟨b, 0 + (i.toNat * k + 0), none⟩), ?_, rfl⟩
    have hlt : i < (xs.length : Int) := by omega
    intro w' hw'
    simp [execOp, h1, hy', Instr.indexAt, asIntOf, run_underlying ht.u, h0, hlt, ht.s, add_zero_addr]

theorem VOp.indexHN {t e k : Nat} [ht : IsSl P t e k] {α : Type} {tr : TR α} {v : Value} {xs : List α} {x y : Operand} {i : Nat} (hx : opd φ x = some (vlit v)) (hh : Has S (hsl tr v xs)) (hy : opd φ y = some (vint (i : Int)))
    (hi : i < xs.length) : VOp P n φ S ⟨d, .indexAddr t x y, ty, ps, af, g⟩ (vep v k i 0) := by
  have := VOp.indexH (P := P) (n := n) (φ := φ) (S := S) (d := d) (ty := ty) (ps := ps) (af := af) (g := g) (t := t) (e := e) (k := k) hx hh hy (by omega) (by simpa using hi)
  simpa using this

/-- an element of one known value -/
theorem VOp.loadH {t : Nat} {x : Operand} {α : Type} {rv : α → Value} {h1 : ∀ x, (rv x).oneCell' = true} {v : Value} {xs : List α} {i : Nat} {k' : Nat} [ht : IsVar P t false k'] (hx : opd φ x = some (vep v 1 i 0)) (hh : Has S (hsl (tVal rv h1) v xs))
    (hi : i < xs.length) : VOp P n φ S ⟨d, .load t x, ty, ps, af, g⟩ (vlit (rv (xs[i]'hi))) := by
  refine ⟨fun c a hf ⟨fs, hs⟩ => ?_⟩
  obtain ⟨f, _, hp⟩ := hh.get hs.all
  rcases hp with ⟨rfl, _, _⟩ | ⟨b, cap, arr, tt, vss, fss, rfl, hb, hsz, hcap, hr, htk, _⟩
  · simp at hi
  · have hx' : a.eval x = .pointer (some ⟨b, 0 + (i * 1 + 0), none⟩) := hf.opd hx
    rw [Nat.zero_add, Nat.mul_one, Nat.add_zero] at hx'
    obtain ⟨v1, vs, v2, f1, f, f2, rfl, rfl, h3, h4, h5, _⟩ := hr.at i _ (List.getElem?_eq_getElem hi)
    have hvs : vs = [rv xs[i]] := h5.1
    have hcell : c.w.cell? ⟨b, i, none⟩ = some (rv xs[i]) := by
      have hk : (tVal rv h1).k = 1 := rfl
      rw [hk, Nat.mul_one] at h4 htk
      have : (arr.toList.take xs.length)[i]? = some (rv xs[i]) := by
        rw [htk, List.flatten_append, List.getElem?_append_right (by omega), h4, List.flatten_cons, hvs]; simp
      rw [List.getElem?_take, if_pos hi] at this
      rw [cell_row hb]; simpa using this
    exact ⟨_, by intro w' hw'; have h4 := hw'.cell hcell; simp [execOp, hx', Instr.loadAt, Instr.sureAddr, loadVar, ht.g, h4], rfl⟩

theorem rows_put {α : Type} {t : TR α} {arr : Array Value} {xs : List α} {v1 v2 : List (List Value)} {us ws : List Value} {i : Nat} (hfit : xs.length * t.k ≤ arr.size) (htk : arr.toList.take (xs.length * t.k) = (v1 ++ us :: v2).flatten) (h4 : v1.flatten.length = i * t.k)
    (hu : us.length = t.k) (hw : ws.length = t.k) : ((arr.toList.take (i * t.k) ++ ws ++ arr.toList.drop (i * t.k + ws.length)).toArray).toList.take (xs.length * t.k) = (v1 ++ ws :: v2).flatten := by
  have hlen := congrArg List.length htk
  simp only [List.flatten_append, List.flatten_cons, List.length_append, List.length_take, Array.length_toList, h4, hu] at hlen
  have e1 : min (xs.length * t.k) arr.size = xs.length * t.k := by omega
  rw [e1] at hlen
  apply List.ext_getElem?
  intro j
  have hj : ∀ j, j < xs.length * t.k → arr.toList[j]? = ((v1 ++ us :: v2).flatten)[j]? := fun j hj => by rw [← htk, List.getElem?_take, if_pos hj]
  rw [List.getElem?_take]
  by_cases hjl : j < xs.length * t.k
  · rw [if_pos hjl]
    have := put_get (arr := arr) (vs := ws) (o := i * t.k) (j := j) (by omega)
    simp only [List.getElem?_toArray] at this
    rw [this]
    simp only [List.flatten_append, List.flatten_cons]
    by_cases h1 : j < i * t.k
    · rw [if_pos h1, List.getElem?_append_left (by omega)]
      have := hj j hjl
      simp only [List.flatten_append, List.flatten_cons] at this
      rw [List.getElem?_append_left (by omega)] at this
      simpa using this
    · rw [if_neg h1, List.getElem?_append_right (by omega), h4]
      by_cases h2 : j < i * t.k + ws.length
      · rw [if_pos h2, List.getElem?_append_left (by omega)]
      · rw [if_neg h2, List.getElem?_append_right (by omega)]
        have := hj j hjl
        simp only [List.flatten_append, List.flatten_cons] at this
        rw [List.getElem?_append_right (by omega), List.getElem?_append_right (by omega), h4, hu] at this
        rw [hw]; simpa using this
  · rw [if_neg hjl, List.getElem?_eq_none (by simp only [List.flatten_append, List.flatten_cons, List.length_append, h4, hw]; omega)]

/-- a[i] = v, elements of one known value -/
theorem UOp.storeH {t : TypeId} {x y : Operand} {gg : Bool} {α : Type} {rv : α → Value} {ho : ∀ x, (rv x).oneCell' = true} {v : Value} {xs : List α} {i : Nat} {z : α} {C : HP → List HP} [ht : IsVar P t gg 1]
    (hx : opd φ x = some (vep v 1 i 0)) (hy : opd φ y = some (vlit (rv z))) (u' : Plc S (hsl (tVal rv ho) v xs) C) (hi : i < xs.length) : UOp P n φ S ⟨d, .store t x y, ty, ps, af, g⟩ (fun S'' => S'' = C (hsl (tVal rv ho) v (xs.set i z))) := by
  refine ⟨fun c a hf hs => ?_⟩
  have u := u'.upd (hsl (tVal rv ho) v (xs.set i z))
  have hy' : a.eval y = rv z := hf.opd hy
  obtain ⟨fs, hsf⟩ := hs
  obtain ⟨A, B, hS, hS'⟩ := u.split
  subst hS
  rw [hS']
  obtain ⟨f1, f, f2, rfl, hA, hp, hB⟩ := hsf.middle
  rcases hp with ⟨rfl, _, _⟩ | ⟨b, cap, arr, tt, vss, fss, rfl, hb, hsz, hcap, hr, htk, rfl⟩
  · simp at hi
  · have hx' : a.eval x = .pointer (some ⟨b, 0 + (i * 1 + 0), none⟩) := hf.opd hx
    rw [Nat.zero_add, Nat.mul_one, Nat.add_zero] at hx'
    obtain ⟨v1, us, v2, g1, gg', g2, rfl, rfl, h3, h4, h5, h6⟩ := hr.at i _ (List.getElem?_eq_getElem hi)
    have hk : (tVal rv ho).k = 1 := rfl
    have hus : us = [rv xs[i]] := h5.1
    have hg' : gg' = [] := h5.2
    subst hg'
    have hfitL : xs.length * (tVal rv ho).k ≤ arr.size := by rw [hsz]; exact Nat.mul_le_mul_right _ hcap
    have hfit : i + [rv z].length ≤ arr.size := by rw [hk, Nat.mul_one] at hfitL; simp; omega
    have hrun := run_put (P := P) (vs := [rv z]) hb hfit (by simpa using ho z)
    have hlt : b < c.w.heap.size := (Array.getElem?_eq_some_iff.1 hb).1
    have hbo := hsf.own b (by simp)
    let arr' := (arr.toList.take i ++ [rv z] ++ arr.toList.drop (i + [rv z].length)).toArray
    have hl : c.le ⟨c.F, c.U, setW c.w b arr' tt⟩ := ⟨fun _ h => h, rfl, fun k hk => setW_other (fun e => hk.elim (fun h => hbo.1 (e ▸ h)) (fun h => hbo.2.1 (e ▸ h))), by simp [setW_size], rfl, rfl, rfl⟩
    have hnd : (b :: (g1 ++ [] :: g2).flatten).Nodup := by
      have := hsf.nodup
      simp only [List.flatten_append, List.flatten_cons, List.nodup_append] at this
      simpa using this.2.1.1
    have hs' := hsf.replace (h' := hsl (tVal rv ho) (.slice (some ⟨b, 0, none⟩) xs.length cap) (xs.set i z)) (f' := b :: (g1 ++ [] :: g2).flatten) hl hA hB (fun _ => .rfl) (fun k _ hk => setW_other (fun e => by subst e; simp at hk)) (by
        intro k hk
        refine ⟨.inl hk, ?_⟩
        have := (hsf.own k (by rw [List.flatten_append, List.flatten_cons, List.mem_append, List.mem_append]; exact .inr (.inl hk))).2.2
        simpa [setW_size] using this) hnd (by
      have hnew := setW_at (w := c.w) (arr := arr') (t := tt) hlt
      refine .inr ⟨b, cap, arr', tt, v1 ++ [rv z] :: v2, g1 ++ [] :: g2, by simp, hnew, by rw [← hsz]; exact put_size hfit, by simpa using hcap, ?_, ?_, rfl⟩
      · refine h6 z [rv z] [] _ ⟨rfl, rfl⟩ hl.v (fun k hk => setW_other (fun e => ?_)) (fun k hk => setW_other (fun e => ?_))
        · subst e; simp only [List.nodup_cons, List.flatten_append, List.mem_append] at hnd; exact hnd.1 (.inl hk)
        · subst e; simp only [List.nodup_cons, List.flatten_append, List.mem_append, List.flatten_cons] at hnd; exact hnd.1 (.inr (.inr hk))
      · have := rows_put (t := tVal rv ho) (ws := [rv z]) hfitL htk h4 (by rw [hus]; rfl) rfl
        rw [hk, Nat.mul_one] at this
        simpa [hk, arr'] using this)
    refine ⟨_, c.F, _, ?_, hl, ⟨_, hs'⟩, rfl⟩
    have hc1 : (rv z).cells = #[rv z] := by
      have := ho z
      cases h : rv z <;> rw [h] at this <;> first | rfl | simp [Value.oneCell'] at this
    simp [execOp, hx', hy', Instr.storeAt, Instr.sureAddr, storeVar, hc1, ht.s, hrun, arr']
end
end Go.Proofs.YtemfpennomelaaaDoor

/- Owned trees taken apart and put together: packing, one element at a time, append of an owned element. Proved for every program P; conditions: indices in bounds, small sizes. -/
namespace Go.Proofs.YtemfpennomelaaaDoor
open Go
set_option linter.unusedVariables false
set_option linter.unnecessarySimpa false

/-- the chunks S may be seen as the chunks T -/
def SEnt (S T : List HP) : Prop := ∀ c fs, SHf c S fs → ∃ gs, SHf c T gs

theorem SEnt.ent {S T : List HP} (h : SEnt S T) {φ : Slots} : Ent φ S φ T := fun c n a hf ⟨fs, hs⟩ => let ⟨gs, hg⟩ := h c fs hs; ⟨c.F, .refl c, hf, gs, hg⟩

theorem SHf.cons0 {c : Ctx} {S : List HP} {fs : List (List Nat)} {h : HP} (hs : SHf c S fs) (hp : h.p c []) : SHf c (h :: S) ([] :: fs) :=
  ⟨.cons hp hs.all, by simpa using hs.nodup, by simpa using hs.own, hs.fro, hs.dis⟩

theorem SHf.turn {c : Ctx} {S : List HP} {f : List Nat} {fs : List (List Nat)} {h k : HP} (hs : SHf c (h :: S) (f :: fs)) (hk : k.p c f) : SHf c (k :: S) (f :: fs) := by
  obtain ⟨ha, h1, h2, h3, h4⟩ := hs
  cases ha with
  | cons _ hr => exact ⟨.cons hk hr, h1, h2, h3, h4⟩

theorem SHf.head {c : Ctx} {S : List HP} {fs : List (List Nat)} {h : HP} (hs : SHf c (h :: S) fs) : ∃ f gs, fs = f :: gs ∧ h.p c f := by
  obtain ⟨ha, _⟩ := hs
  cases ha with
  | @cons _ f _ gs hp _ => exact ⟨f, gs, rfl, hp⟩

theorem SEnt.nil {α : Type} (t : TR α) (S : List HP) : SEnt S (hsl t (.slice none 0 0) [] :: S) := fun c fs hs => ⟨_, hs.cons0 (.inl ⟨rfl, rfl, rfl⟩)⟩
theorem SEnt.val {α : Type} (rv : α → Value) (ho : ∀ x, (rv x).oneCell' = true) (x : α) (S : List HP) : SEnt S (hel (tVal rv ho) x [rv x] :: S) := fun c fs hs => ⟨_, hs.cons0 ⟨rfl, rfl⟩⟩

/-- an array of known values, as an owned slice -/
theorem SEnt.pack {α : Type} {rv : α → Value} (ho : ∀ x, (rv x).oneCell' = true) {b cap len : Nat} {xs : List α} {S : List HP} (hl : len = xs.length) :
    SEnt (harr b 1 (fun x => [vlit (rv x)]) xs (cap * 1) :: S) (hsl (tVal rv ho) (.slice (some ⟨b, 0, none⟩) len cap) xs :: S) := fun c fs hs => by
  subst hl
  obtain ⟨f, gs, rfl, rfl, ⟨arr, tt, hb, hsz, hfit⟩, hE⟩ := hs.head
  refine ⟨_, hs.turn (.inr ⟨b, cap, arr, tt, xs.map (fun x => [rv x]), xs.map (fun _ => []), rfl, hb, hsz, by simpa using hfit, ?_, ?_, ?_⟩)⟩
  · clear hE hfit hs
    induction xs with
    | nil => exact .nil
    | cons x xs ih => exact .cons (t := tVal rv ho) ⟨rfl, rfl⟩ ih
  · have hk : (tVal rv ho).k = 1 := rfl
    rw [hk]
    simp only [Nat.mul_one] at hfit hsz ⊢
    apply List.ext_getElem?
    intro j
    have e : (xs.map fun x => [rv x]).flatten = xs.map rv := by
      clear hE hfit hs
      induction xs with
      | nil => rfl
      | cons x xs ih => simp [ih]
    rw [e, List.getElem?_take, List.getElem?_map]
    by_cases hj : j < xs.length
    · rw [if_pos hj]
      obtain ⟨_, h2⟩ := hE j _ (List.getElem?_eq_getElem hj)
      obtain ⟨v, h3, h4⟩ := h2 0 _ rfl
      rw [Nat.zero_add, cell_row hb, Nat.mul_one, Nat.add_zero] at h3
      cases h4
      rw [List.getElem?_eq_getElem hj]; simpa using h3
    · rw [if_neg hj, List.getElem?_eq_none (by omega)]; rfl
  · have : (xs.map fun _ => ([] : List Nat)).flatten = [] := by
      clear hE hfit hs
      induction xs with
      | nil => rfl
      | cons x xs ih => simpa using ih
    rw [this]

/-- an owned slice as an element, and back -/
theorem SEnt.elS {α : Type} {t : TR α} {v : Value} {xs : List α} {S : List HP} : SEnt (hsl t v xs :: S) (hel (tS t) xs [v] :: S) := fun c fs hs => by
  obtain ⟨f, gs, rfl, hp⟩ := hs.head
  exact ⟨_, hs.turn ⟨v, rfl, hp⟩⟩
theorem SEnt.unS {α : Type} {t : TR α} {v : Value} {xs : List α} {S : List HP} : SEnt (hel (tS t) xs [v] :: S) (hsl t v xs :: S) := fun c fs hs => by
  obtain ⟨f, gs, rfl, v', h1, h2⟩ := hs.head
  obtain rfl : v = v' := by simpa using h1
  exact ⟨_, hs.turn h2⟩
/-- a struct of a number and an owned slice as an element, and back -/
theorem SEnt.elP {α β : Type} {rv : β → Value} {ho : ∀ x, (rv x).oneCell' = true} {t : TR α} {v : Value} {y : β} {xs : List α} {S : List HP} : SEnt (hsl t v xs :: S) (hel (tPair (tVal rv ho) (tS t)) (y, xs) [rv y, v] :: S) := fun c fs hs => by
  obtain ⟨f, gs, rfl, hp⟩ := hs.head
  exact ⟨_, hs.turn ⟨[rv y], [v], [], f, rfl, rfl, ⟨rfl, rfl⟩, v, rfl, hp⟩⟩
theorem SEnt.pick {S B S0 : List HP} (p : Pick S B S0) : SEnt S (B ++ S0) := fun c fs hs => let ⟨gs, hg, _⟩ := p.sh hs; ⟨gs, hg⟩
theorem SEnt.trans {S T V : List HP} (h : SEnt S T) (k : SEnt T V) : SEnt S V := fun c fs hs => let ⟨gs, hg⟩ := h c fs hs; k c gs hg
theorem SEnt.ch {S T : List HP} (h : Ch S T) : SEnt S T := fun c fs hs => let ⟨gs, hg, _⟩ := h.sh hs; ⟨gs, hg⟩

section
variable {P : Program} {n : Nat} {ops : Array Oper} {o : Oper} {l : List Oper} {K : Slots → List HP → Prop} {φ : Slots} {S : List HP} {Q : Post} {x : Code}

theorem RL.sent {T : List HP} (h : SEnt S T) (hr : RL P n ops l K φ T) : RL P n ops l K φ S := RL.weaken h.ent hr
theorem Run.sent {T : List HP} (h : SEnt S T) (hr : Run P n x Q φ T) : Run P n x Q φ S := Run.weaken h.ent hr

/-- one element is taken out -/
theorem focusS {α : Type} {t : TR α} {v : Value} {xs : List α} {i : Nat} {S1 : List HP} (hi : i < xs.length) {c : Ctx} {f : List Nat} {fs : List (List Nat)} (hs : SHf c (hsl t v xs :: S1) (f :: fs)) :
    ∃ us gs, us.length = t.k ∧ SHf c (hel t (xs[i]'hi) us :: hsl (tHole t) v ((xs.map .inl).set i (.inr us)) :: S1) gs := by
  obtain ⟨ha, hnd, hown, hfro, hdis⟩ := hs
  cases ha with
  | cons hp hr0 =>
    rcases hp with ⟨rfl, _, _⟩ | ⟨b, cap, arr, tt, vss, fss, rfl, hb, hsz, hcap, hr, htk, rfl⟩
    · simp at hi
    · obtain ⟨v1, us, v2, g1, gg, g2, rfl, rfl, h3, h4, h5, h6⟩ := hr.hole.at i (.inl (xs[i]'hi)) (by simp [hi])
      have h5' : t.p c xs[i] us gg := h5
      have hlen := t.len h5'
      have hrow := h6 (.inr us) us [] c ⟨rfl, rfl, hlen, t.one h5'⟩ ⟨fun _ h => h, fun _ _ => rfl⟩ (fun _ _ => rfl) (fun _ _ => rfl)
      refine ⟨us, gg :: (b :: (g1 ++ [] :: g2).flatten) :: fs, hlen, .cons h5' (.cons (.inr ⟨b, cap, arr, tt, v1 ++ us :: v2, g1 ++ [] :: g2, by simp, hb, hsz, by simpa using hcap, hrow, ?_, rfl⟩) hr0), ?_, ?_, hfro, hdis⟩
      · have hk : (tHole t).k = t.k := rfl
        simpa [hk] using htk
      · simp only [List.flatten_cons, List.flatten_append, List.nodup_append, List.nodup_cons, List.mem_append, List.mem_cons, List.cons_append, List.nil_append] at hnd ⊢
        grind
      · intro x hx
        refine hown x ?_
        simp only [List.flatten_cons, List.flatten_append, List.mem_append, List.mem_cons, List.nil_append] at hx ⊢
        grind

theorem RL.focus {α : Type} {t : TR α} {v : Value} {xs : List α} {S1 : List HP} (i : Nat) (hr : Rem S (hsl t v xs) S1) (hi : i < xs.length)
    (h : ∀ us, us.length = t.k → RL P n ops l K φ (hel t (xs[i]'hi) us :: hsl (tHole t) v ((xs.map .inl).set i (.inr us)) :: S1)) : RL P n ops l K φ S := by
  refine ⟨fun c a k hl hf hs => ?_⟩
  obtain ⟨fs, f, hs⟩ := hs.rem hr
  obtain ⟨us, gs, h1, h2⟩ := focusS hi hs
  exact (h us h1).run c a k hl hf ⟨gs, h2⟩

/-- and put back -/
theorem SEnt.unfocus {α : Type} {t : TR α} {v : Value} {xs : List α} {y : α} {us : List Value} {S1 : List HP} {i : Nat} (hi : i < xs.length) :
    SEnt (hel t y us :: hsl (tHole t) v ((xs.map .inl).set i (.inr us)) :: S1) (hsl t v (xs.set i y) :: S1) := fun c fs hs => by
  obtain ⟨ha, hnd, hown, hfro, hdis⟩ := hs
  cases ha with
  | @cons _ gg _ _ hp hr1 =>
    cases hr1 with
    | @cons _ f _ fs hp2 hr0 =>
      rcases hp2 with ⟨h0, _, _⟩ | ⟨b, cap, arr, tt, vss, fss, rfl, hb, hsz, hcap, hr, htk, rfl⟩
      · have := congrArg List.length h0; simp at this; subst this; simp at hi
      · obtain ⟨v1, ws, v2, g1, g0, g2, rfl, rfl, h3, h4, h5, h6⟩ := hr.at i (.inr us) (by simp [hi])
        obtain ⟨rfl, rfl, _, _⟩ := h5
        have hrow := h6 (.inl y) ws gg c hp ⟨fun _ h => h, fun _ _ => rfl⟩ (fun _ _ => rfl) (fun _ _ => rfl)
        have e : ((xs.map Sum.inl).set i (Sum.inr ws)).set i (Sum.inl y) = (xs.set i y).map (Sum.inl : α → α ⊕ List Value) := by simp [List.map_set]
        rw [e] at hrow
        refine ⟨(b :: (g1 ++ gg :: g2).flatten) :: fs, .cons (.inr ⟨b, cap, arr, tt, v1 ++ ws :: v2, g1 ++ gg :: g2, by simp, hb, hsz, by simpa using hcap, hrow.unhole, ?_, rfl⟩) hr0, ?_, ?_, hfro, hdis⟩
        · have hk : (tHole t).k = t.k := rfl
          simpa [hk] using htk
        · simp only [List.flatten_cons, List.flatten_append, List.nodup_append, List.nodup_cons, List.mem_append, List.mem_cons, List.cons_append, List.nil_append] at hnd ⊢
          grind
        · intro x hx
          refine hown x ?_
          simp only [List.flatten_cons, List.flatten_append, List.mem_append, List.mem_cons, List.nil_append] at hx ⊢
          grind
end

section
variable {P : Program} {n : Nat} {φ : Slots} {S : List HP} {d : Option Tmp} {ty : TypeId} {ps : String} {af : Array Edge} {g : Option (Nat × Bool)}

/-- a cell of an element that is taken out -/
theorem VOp.loadHole {t : Nat} {x : Operand} {α : Type} {tr : TR α} {v : Value} {xs : List α} {i o : Nat} {us : List Value} {u : Value} {k k' : Nat} [ht : IsVar P t false k'] (hx : opd φ x = some (vep v k i o)) (hh : Has S (hsl (tHole tr) v ((xs.map .inl).set i (.inr us))))
    (hk : tr.k = k) (hi : i < xs.length) (hu : us[o]? = some u) : VOp P n φ S ⟨d, .load t x, ty, ps, af, g⟩ (vlit u) := by
  refine ⟨fun c a hf ⟨fs, hs⟩ => ?_⟩
  subst hk
  obtain ⟨f, _, hp⟩ := hh.get hs.all
  rcases hp with ⟨h0, _, _⟩ | ⟨b, cap, arr, tt, vss, fss, rfl, hb, hsz, hcap, hr, htk, _⟩
  · have := congrArg List.length h0; simp at this; subst this; simp at hi
  · have hx' : a.eval x = .pointer (some ⟨b, 0 + (i * tr.k + o), none⟩) := hf.opd hx
    rw [Nat.zero_add] at hx'
    obtain ⟨v1, ws, v2, f1, f, f2, rfl, rfl, h3, h4, h5, _⟩ := hr.at i (.inr us) (by simp [hi])
    obtain ⟨rfl, rfl, hlen, _⟩ := h5
    have ho : o < tr.k := by rw [← hlen]; exact (List.getElem?_eq_some_iff.1 hu).1
    have hcell : c.w.cell? ⟨b, i * tr.k + o, none⟩ = some u := by
      have hk : (tHole tr).k = tr.k := rfl
      rw [hk] at h4 htk
      simp only [List.length_set, List.length_map] at htk
      have hlt : i * tr.k + o < xs.length * tr.k := by
        calc i * tr.k + o < i * tr.k + tr.k := by omega
          _ = (i + 1) * tr.k := by rw [Nat.succ_mul]
          _ ≤ xs.length * tr.k := Nat.mul_le_mul_right _ hi
      have : (arr.toList.take (xs.length * tr.k))[i * tr.k + o]? = some u := by
        rw [htk, List.flatten_append, List.getElem?_append_right (by omega), h4, List.flatten_cons, Nat.add_sub_cancel_left, List.getElem?_append_left (by omega)]; exact hu
      rw [List.getElem?_take, if_pos hlt] at this
      rw [cell_row hb]; simpa using this
    exact ⟨_, by intro w' hw'; have h4 := hw'.cell hcell; simp [execOp, hx', Instr.loadAt, Instr.sureAddr, loadVar, ht.g, h4], rfl⟩

theorem run_append_nil {t t2 e k by' : Nat} {z : Value} (ht : IsSlM P t e k by' z) (h2 : ∃ e2, P.underlying t2 = some (.slice e2)) {w : World} {u : Value} {m : Nat} {vs : List Value} (hu : Src P k w u m vs) (hm0 : 0 < m) (hbound : m * by' ≤ 140737488355328) (h63 : m ≤ 140737488355328) :
    ∃ cap' rest, m ≤ cap' ∧ (Builtin.append_ #[t, t2] ty #[.slice none 0 0, u]).run P w = .ok (.slice (some ⟨w.heap.size, 0, none⟩) m cap') (newW w 1 (.cells (vs ++ rest).toArray e)) ∧ (vs ++ rest).length = cap' * k := by
  obtain ⟨i, hu', hi, hz0, rfl, rfl, hzs, hk⟩ := ht.ex
  obtain ⟨e2, h2⟩ := h2
  have hroom : ¬ (m ≤ 0) := by omega
  have hq : ¬ (Question.appendCap m 0 e).forced = true := by simp [Question.forced]
  have hcap : ¬ (281474976710656 < Builtin.nextslicecap m 0 * i.bytes) := by
    have := growslice_fits (need := m) (old := 0) (bytes := i.bytes) (by omega) hbound; omega
  have hmax : ¬ ((9223372036854775807 : Int) < (m : Int)) := by omega
  let cap' := (Question.appendCap m 0 e).cut (w.tape w.drawn (.appendCap m 0 e))
  have hcap' : m ≤ cap' := by show m ≤ m + _; omega
  refine ⟨cap', (Builtin.zeroCells z.cells (cap' - m)).toList, hcap', ?_, ?_⟩
  · have hzero : ∀ w', (zeroValue e).run P w' = .ok z w' := fun w' => by simp [zeroValue, typeInfo, hi, hz0]
    have hzw : ∀ w', (typeInfo e).run P w' = .ok i w' := fun w' => by simp [typeInfo, hi]
    have e2 := hu.cells w.drew rfl
    have hm' : ¬ m = 0 := by omega
    simp only [Builtin.append_]
    simp [run_underlying hu', run_underlying h2, run_sz hi, hu.len, hm', hmax, hzw, hcap, hzero, hq, e2, newRow, run_firstCells_none]
    refine ⟨rfl, ?_⟩
    show ({ w with heap := w.heap.push _, drawn := w.drawn + 1 } : World) = { w with heap := w.heap.push _, drawn := w.drawn + 1 }
    congr 2
    congr 1
    apply Array.ext'
    simp [cap']
  · simp only [List.length_append, hu.size, Array.length_toList, Builtin.zeroCells, Array.size_map, Array.size_range, hzs, ← Nat.add_mul]
    congr 1; omega

/-- append of one owned element -/
theorem EOp.appH {t t2 e e2 k k2 by' : Nat} {z : Value} [ht : IsSlM P t e k by' z] [h2 : IsSl P t2 e2 k2] {x y : Operand} {α : Type} {tr : TR α} {v : Value} {xs : List α} {b2 m2 sz2 : Nat} {us : List Value} {el : α} {S1 : List HP}
    (hx : opd φ x = some (vlit v)) (hy : opd φ y = some (vsb b2 1 m2)) (hsrc : Has S (harr b2 k (List.map vlit) [us] sz2)) (hp : Pick S [hel tr el us, hsl tr v xs] S1) (hk : tr.k = k)
    (hbound : (xs.length + 1) * by' ≤ 140737488355328) (h63 : xs.length + 1 ≤ 140737488355328) :
    EOp P n φ S ⟨d, .call ⟨.builtin .append, #[x, y], #[t, t2]⟩, ty, ps, af, g⟩ (fun q S' => ∃ v', q = vlit v' ∧ S' = hsl tr v' (xs ++ [el]) :: S1) := by
  refine ⟨fun c a hf ⟨fs0, hs0⟩ => ?_⟩
  subst hk
  have h1 : a.eval x = v := hf.opd hx
  have hy' : a.eval y = .slice (some ⟨b2, 0, none⟩) 1 m2 := hf.opd hy
  obtain ⟨f2, _, hsrc'⟩ := hsrc.get hs0.all
  obtain ⟨fs, hs, _⟩ := hp.sh hs0
  obtain ⟨ha, hnd, hown, hfro, hdis⟩ := hs
  cases ha with
  | @cons _ fel _ _ hel hr1 =>
    cases hr1 with
    | @cons _ f _ fs hv hr0 =>
      have hone := tr.one hel
      have hlen := tr.len hel
      have hu : Src P tr.k c.w (.slice (some ⟨b2, 0, none⟩) 1 m2) 1 us := by
        obtain ⟨rfl, ⟨arr2, tt2, hb2, hsz2, hfit2⟩, hE2⟩ := hsrc'
        refine ⟨fun w' => rfl, fun w' hw => ?_, by omega, hone⟩
        refine run_firstCells_some w' tr.k 1 _ 1 m2 us (by omega) (fun j u hj => ?_)
        obtain ⟨v', h3, h4⟩ := (hE2 0 us rfl).2 j (vlit u) (by rw [List.getElem?_map, hj]; rfl)
        cases h4
        rw [add_zero_addr, cell_heap hw, ← h3]; simp
      have hex : ∀ v' w', (Builtin.append_ #[t, t2] ty #[v, .slice (some ⟨b2, 0, none⟩) 1 m2]).run P c.w = .ok v' w' →
          (execOp a.eval ⟨d, .call ⟨.builtin .append, #[x, y], #[t, t2]⟩, ty, ps, af, g⟩).run P c.w = .ok (.value v') w' := fun v' w' h => by
        simp [execOp, resolve, invoke, builtin, h1, hy', h]
      have hnd' := hnd
      have hown' := hown
      simp only [List.flatten_cons, List.nodup_append, List.mem_append] at hnd hown
      rcases hv with ⟨rfl, rfl, rfl⟩ | ⟨b, cap, arr, tt, vss, fss, rfl, hb, hsz, hcap, hr, htk, rfl⟩
      · obtain ⟨cap', rest, hc', hrun, hl'⟩ := run_append_nil (P := P) (ty := ty) ht ⟨e2, h2.u⟩ hu (by omega) (by simpa using hbound) (by simpa using h63)
        have hl : c.le ⟨c.F, c.U, newW c.w 1 (.cells (us ++ rest).toArray e)⟩ := newW_le hfro
        have hsame : ∀ k, k < c.w.heap.size → (newW c.w 1 (.cells (us ++ rest).toArray e)).heap[k]? = c.w.heap[k]? := fun k hk => newW_heap hk
        have hperm : ((c.w.heap.size :: [fel].flatten) :: fs).flatten.Perm (c.w.heap.size :: (fel :: [] :: fs).flatten) := by simp
        have hn : c.w.heap.size ∉ (fel :: [] :: fs).flatten := fun h => by have := (hown' _ h).2.2; omega
        refine ⟨_, _, c.F, _, hsl tr (.slice (some ⟨c.w.heap.size, 0, none⟩) 1 cap') [el] :: S1, hex _ _ hrun, hl, rfl, ⟨(c.w.heap.size :: [fel].flatten) :: fs, .cons (.inr ⟨c.w.heap.size, cap', _, e, [us], [fel], rfl, newW_new, by rw [← hl']; simp, hc', .cons (tr.mono hl.v (fun k hk => hsame k (hown k (.inl hk)).2.2) hel) .nil, ?_, rfl⟩) (hr0.keep hl.v fun k hk => hsame k (hown k (.inr (.inr hk))).2.2), hperm.nodup_iff.2 (List.nodup_cons.2 ⟨hn, hnd'⟩), ?_, fun k hk => Nat.lt_of_lt_of_le (hfro k hk) hl.size, hdis⟩, _, rfl, rfl⟩
        · simp [← hlen]
        · intro k hk
          rcases List.mem_cons.1 (hperm.mem_iff.1 hk) with rfl | hk
          · exact ⟨fun h => by have := hfro _ (.inl h); omega, fun h => by have := hfro _ (.inr h); omega, by simp [newW_size]⟩
          · exact ⟨(hown' k hk).1, (hown' k hk).2.1, Nat.lt_of_lt_of_le (hown' k hk).2.2 hl.size⟩
      · have hkeep : ∀ {w' : World}, (∀ k, k < c.w.heap.size → k ≠ b → w'.heap[k]? = c.w.heap[k]?) → c.le ⟨c.F, c.U, w'⟩ → Rows ⟨c.F, c.U, w'⟩ tr (xs ++ [el]) (vss ++ [us]) (fss ++ [fel]) := fun {w'} hsm hl => by
          refine (hr.mono hl.v (fun k hk => hsm k (hown k (.inr (.inl (by simp only [List.mem_cons]; exact .inr hk)))).2.2 ?_)).append (.cons (tr.mono hl.v (fun k hk => hsm k (hown k (.inl hk)).2.2 ?_) hel) .nil)
          · rintro rfl; have := hnd.2.1.1; simp only [List.nodup_cons] at this; exact this.1 hk
          · rintro rfl; exact hnd.2.2 _ hk _ (.inl (by simp)) rfl
        have hperm : ∀ x, ((x :: (fss ++ [fel]).flatten) :: fs).flatten.Perm (x :: (fel ++ (fss.flatten ++ fs.flatten))) := fun x => by
          rw [List.perm_iff_count]; intro a; simp [List.count_append, List.count_cons]; omega
        have hold : (fel :: (b :: fss.flatten) :: fs).flatten.Perm (b :: (fel ++ (fss.flatten ++ fs.flatten))) := by
          rw [List.perm_iff_count]; intro a; simp [List.count_append, List.count_cons]; omega
        rcases run_append (P := P) (ty := ty) ht ⟨e2, h2.u⟩ hb hsz hcap hu hbound h63 with ⟨hroom, hrun⟩ | ⟨hno, cap', rest, hc', hrun, hl'⟩
        · have hfit : xs.length * tr.k + us.length ≤ arr.size := by rw [hlen, hsz]; have := Nat.mul_le_mul_right tr.k hroom; rw [Nat.add_mul] at this; omega
          have hbo := hown b (.inr (.inl (by simp)))
          have hlt := hbo.2.2
          let arr' := (arr.toList.take (xs.length * tr.k) ++ us ++ arr.toList.drop (xs.length * tr.k + us.length)).toArray
          have hl : c.le ⟨c.F, c.U, setW c.w b arr' tt⟩ := ⟨fun _ h => h, rfl, fun k hk => setW_other (fun e => hk.elim (fun h => hbo.1 (e ▸ h)) (fun h => hbo.2.1 (e ▸ h))), by simp [setW_size], rfl, rfl, rfl⟩
          refine ⟨_, _, c.F, _, hsl tr (.slice (some ⟨b, 0, none⟩) (xs.length + 1) cap) (xs ++ [el]) :: S1, hex _ _ hrun, hl, rfl, ⟨(b :: (fss ++ [fel]).flatten) :: fs, .cons (.inr ⟨b, cap, arr', tt, vss ++ [us], fss ++ [fel], by simp, setW_at hlt, by rw [← hsz]; exact put_size hfit, by simpa using hroom, hkeep (fun k _ hk => setW_other hk) hl, ?_, rfl⟩) (hr0.keep hl.v fun k hk => setW_other ?_), (hperm b).nodup_iff.2 (hold.nodup_iff.1 hnd'), ?_, fun k hk => Nat.lt_of_lt_of_le (hfro k hk) hl.size, hdis⟩, _, rfl, rfl⟩
          · have e1 : (arr.toList.take (xs.length * tr.k)).length = xs.length * tr.k := by have := Nat.mul_le_mul_right tr.k hcap; rw [List.length_take, Nat.min_eq_left (by simpa [hsz] using this)]
            have : (xs ++ [el]).length * tr.k = xs.length * tr.k + us.length := by simp [Nat.add_mul, hlen]
            rw [this]
            show List.take _ (arr.toList.take (xs.length * tr.k) ++ us ++ arr.toList.drop (xs.length * tr.k + us.length)) = _
            rw [List.take_append_of_le_length (by simp [e1]), List.take_of_length_le (by simp [e1]), htk]; simp
          · rintro rfl; exact hnd.2.1.2.2 _ (by simp) _ hk rfl
          · intro k hk
            have := hown' k (hold.mem_iff.2 ((hperm b).mem_iff.1 hk))
            exact ⟨this.1, this.2.1, Nat.lt_of_lt_of_le this.2.2 hl.size⟩
        · have hl : c.le ⟨c.F, c.U, newW c.w 1 (.cells (arr.toList.take (xs.length * tr.k) ++ us ++ rest).toArray e)⟩ := newW_le hfro
          have hsame : ∀ k, k < c.w.heap.size → (newW c.w 1 (.cells (arr.toList.take (xs.length * tr.k) ++ us ++ rest).toArray e)).heap[k]? = c.w.heap[k]? := fun k hk => newW_heap hk
          have hrestown : ∀ k, k ∈ fel ++ (fss.flatten ++ fs.flatten) → ¬ c.F k ∧ ¬ c.U k ∧ k < c.w.heap.size := fun k hk => hown' k (hold.mem_iff.2 (List.mem_cons_of_mem _ hk))
          have hn : c.w.heap.size ∉ fel ++ (fss.flatten ++ fs.flatten) := fun h => by have := (hrestown _ h).2.2; omega
          refine ⟨_, _, c.F, _, hsl tr (.slice (some ⟨c.w.heap.size, 0, none⟩) (xs.length + 1) cap') (xs ++ [el]) :: S1, hex _ _ hrun, hl, rfl, ⟨(c.w.heap.size :: (fss ++ [fel]).flatten) :: fs, .cons (.inr ⟨c.w.heap.size, cap', _, e, vss ++ [us], fss ++ [fel], by simp, newW_new, by simpa using hl', by simpa using hc', hkeep (fun k hk _ => hsame k hk) hl, ?_, rfl⟩) (hr0.keep hl.v fun k hk => hsame k (hown k (.inr (.inr hk))).2.2), (hperm _).nodup_iff.2 (List.nodup_cons.2 ⟨hn, (List.nodup_cons.1 (hold.nodup_iff.1 hnd')).2⟩), ?_, fun k hk => Nat.lt_of_lt_of_le (hfro k hk) hl.size, hdis⟩, _, rfl, rfl⟩
          · have e1 : (arr.toList.take (xs.length * tr.k)).length = xs.length * tr.k := by have := Nat.mul_le_mul_right tr.k hcap; rw [List.length_take, Nat.min_eq_left (by simpa [hsz] using this)]
            have : (xs ++ [el]).length * tr.k = xs.length * tr.k + us.length := by simp [Nat.add_mul, hlen]
            rw [this]
            show List.take _ (arr.toList.take (xs.length * tr.k) ++ us ++ rest) = _
            rw [List.take_append_of_le_length (by simp [e1]), List.take_of_length_le (by simp [e1]), htk]; simp
          · intro k hk
            rcases List.mem_cons.1 ((hperm _).mem_iff.1 hk) with rfl | hk
            · exact ⟨fun h => by have := hfro _ (.inl h); omega, fun h => by have := hfro _ (.inr h); omega, by simp [newW_size]⟩
            · have := hrestown k hk
              exact ⟨this.1, this.2.1, Nat.lt_of_lt_of_le this.2.2 hl.size⟩
end
end Go.Proofs.YtemfpennomelaaaDoor

/- The end of a function: its results read, what is owned put together for its contract. Proved for every program P; no conditions. -/
namespace Go.Proofs.YtemfpennomelaaaDoor
open Go
set_option linter.unusedVariables false

section
variable {P : Program} {φ : Slots} {S : List HP}
theorem Res.cellAgg {a k b : Nat} {ty : TypeId} {qs : List VP} {rs : List ResultVar} {ps : List VP} [ht : IsVar P ty true k] (hp : φ.get a = some (vptr b 0)) (hh : Has S (hcells b qs)) (hl : qs.length = k) (hr : Res P φ S rs ps) :
    Res P φ S (.cell a ty :: rs) (vagg qs :: ps) := by
  refine .cell hp (fun c v hv ⟨fs, hs⟩ => ?_) hr
  have h1 : v = .pointer (some ⟨b, 0, none⟩) := hv
  subst h1
  obtain ⟨f, _, _, _, h3⟩ := hh.get hs.all
  obtain ⟨u, h4, h5⟩ := run_var ht hl h3 (.inl rfl)
  exact ⟨u, by simpa [asAddr] using h4 c.w (Same.refl _), h5⟩

theorem Run.post {n : Nat} {x : Code} {Q Q' : Post} (h : Run P n x Q φ S) (hq : ∀ e φ' S', Q e φ' S' → Q' e φ' S') : Run P n x Q' φ S :=
  ⟨fun c a hf hs => wp_mono (h.run c a hf hs) fun e a' w' ⟨F', φ', S', h1, h2, h3, h4⟩ => ⟨F', φ', S', h1, h2, h3, hq _ _ _ h4⟩⟩
theorem Spec.of_run2 {f : FuncId} {fn : Func} {x : Code} {ps : List VP} {R : VP → List HP → Prop} {rv : List ResultVar} {n : Nat} (hf : P.funcs[f]? = Option.some fn) (hb : fn.body = Option.some x)
    (hrv : fn.results = rv.toArray) (hn : fn.ntmps = n) (hle : Nat.ble ps.length n = true)
    (h : Run P n x (fun e φ' S' => (e = .ret ∨ e = .normal) ∧ ∃ rs S2, Res P φ' S' rv rs ∧ SEnt S' S2 ∧ R (vres rs) S2) (entry 0 ps) S) :
    Spec P f ps S R := by
  have h1 : Spec P f ps S (fun r S' => ∃ S2, SEnt S' S2 ∧ R r S2) := Spec.of_run hf hb hrv hn hle (Run.post h (fun e φ' S' ⟨he, rs, S2, hr, hs, hR⟩ => ⟨he, rs, hr, S2, hs, hR⟩))
  exact ⟨fun c vs ha hs => (h1.run c vs ha hs).mono fun e w' ⟨v, F', r, S', h1, h2, h3, ⟨fs, h4⟩, S2, h5, h6⟩ => ⟨v, F', r, S2, h1, h2, h3, h5 _ fs h4, h6⟩⟩

theorem fin {e : Exit} {rv : List ResultVar} {rs : List VP} {S2 : List HP} {R : VP → List HP → Prop} (he : e = .ret ∨ e = .normal) (hr : Res P φ S rv rs) (hs : SEnt S S2) (h : R (vres rs) S2) :
    (e = .ret ∨ e = .normal) ∧ ∃ rs S2, Res P φ S rv rs ∧ SEnt S S2 ∧ R (vres rs) S2 := ⟨he, rs, S2, hr, hs, h⟩
theorem SEnt.refl (S : List HP) : SEnt S S := fun _ fs h => ⟨fs, h⟩
end

theorem SEnt.drop {h : HP} {S : List HP} : SEnt (h :: S) S := fun c fs hs => by
  obtain ⟨f, gs, rfl, _⟩ := hs.head
  exact ⟨gs, hs.tail⟩
/-- an empty array, as an owned slice of any layout -/
theorem SEnt.packNil {α β : Type} (t : TR α) {r : β → List VP} {b k cap sz : Nat} {S : List HP} (hsz : sz = cap * t.k) :
    SEnt (harr b k r [] sz :: S) (hsl t (.slice (some ⟨b, 0, none⟩) 0 cap) [] :: S) := fun c fs hs => by
  subst hsz
  obtain ⟨f, gs, rfl, rfl, ⟨arr, tt, hb, hsz, hfit⟩, hE⟩ := hs.head
  exact ⟨_, hs.turn (.inr ⟨b, cap, arr, tt, [], [], rfl, hb, hsz, by simp, .nil, by simp, rfl⟩)⟩
/-- the three parts of a slice value -/
abbrev Sv := Option Addr × Nat × Nat
@[reducible] def vsv (s : Sv) : Value := .slice s.1 s.2.1 s.2.2
instance {s : Sv} : One (vlit (vsv s)) := ⟨fun _ _ h => by cases h; rfl⟩

section
variable {P : Program} {n : Nat} {φ : Slots} {S : List HP} {d : Option Tmp} {ty : TypeId} {ps : String} {af : Array Edge} {g : Option (Nat × Bool)}

/-- append of one owned row, which a literal of one element holds -/
theorem EOp.appR {t t2 e e2 k2 by' : Nat} {z : Value} [ht : IsSlM P t e 1 by' z] [h2 : IsSl P t2 e2 k2] {x y : Operand} {α : Type} {tr : TR α} {v v1 : Value} {xs : List (List α)} {el : List α} {b2 m2 sz2 : Nat} {S1 : List HP}
    (hx : opd φ x = some (vlit v)) (hy : opd φ y = some (vsb b2 1 m2)) (hp : Pick S [harr b2 1 (List.map vlit) [[v1]] sz2, hsl tr v1 el, hsl (tS tr) v xs] S1)
    (hbound : (xs.length + 1) * by' ≤ 140737488355328) (h63 : xs.length + 1 ≤ 140737488355328) :
    EOp P n φ S ⟨d, .call ⟨.builtin .append, #[x, y], #[t, t2]⟩, ty, ps, af, g⟩ (fun q S' => ∃ s : Sv, q = vlit (vsv s) ∧ S' = hsl (tS tr) (vsv s) (xs ++ [el]) :: S1) := by
  refine ⟨fun c a hf ⟨fs0, hs0⟩ => ?_⟩
  obtain ⟨fs, hs, _⟩ := hp.sh hs0
  have hE : SEnt (harr b2 1 (List.map vlit) [[v1]] sz2 :: hsl tr v1 el :: hsl (tS tr) v xs :: S1) (hel (tS tr) el [v1] :: hsl (tS tr) v xs :: harr b2 1 (List.map vlit) [[v1]] sz2 :: S1) :=
    (SEnt.pick (B := [hsl tr v1 el]) (.cons (.tail .head) .nil)).trans (SEnt.elS.trans (SEnt.pick (B := [hel (tS tr) el [v1], hsl (tS tr) v xs]) (.cons .head (.cons (.tail .head) .nil))))
  obtain ⟨gs, hg⟩ := hE c fs hs
  have h1 : EOp P n φ (hel (tS tr) el [v1] :: hsl (tS tr) v xs :: harr b2 1 (List.map vlit) [[v1]] sz2 :: S1) ⟨d, .call ⟨.builtin .append, #[x, y], #[t, t2]⟩, ty, ps, af, g⟩ _ :=
    EOp.appH (tr := tS tr) hx hy (.tail (.tail .head)) (.cons .head (.cons .head .nil)) rfl hbound h63
  obtain ⟨u, w', F', r, S', he, hle, hr, ⟨fs', hs'⟩, v', rfl, rfl⟩ := h1.run c a hf ⟨gs, hg⟩
  obtain ⟨f, gs', rfl, hh⟩ := hs'.head
  obtain ⟨ao, cap, rfl⟩ := ownS.shape hh
  have hS : SEnt (hsl (tS tr) (.slice ao (xs ++ [el]).length cap) (xs ++ [el]) :: harr b2 1 (List.map vlit) [[v1]] sz2 :: S1) (hsl (tS tr) (.slice ao (xs ++ [el]).length cap) (xs ++ [el]) :: S1) :=
    (SEnt.pick (B := [harr b2 1 (List.map vlit) [[v1]] sz2]) (.cons (.tail .head) .nil)).trans SEnt.drop
  obtain ⟨gs2, hg2⟩ := hS _ _ hs'
  exact ⟨u, w', F', _, _, he, hle, hr, ⟨gs2, hg2⟩, (ao, (xs ++ [el]).length, cap), rfl, rfl⟩

theorem eopWeaken {o : Oper} {T : List HP} {R : VP → List HP → Prop} (h : SEnt S T) (hv : EOp P n φ T o R) : EOp P n φ S o R :=
  ⟨fun c a hf ⟨fs, hs⟩ => hv.run c a hf (h c fs hs)⟩

/-- append of one row of numbers, which stands in an array of its own -/
theorem EOp.appRI {t t2 e e2 k2 by' : Nat} {z : Value} [ht : IsSlM P t e 1 by' z] [h2 : IsSl P t2 e2 k2] {x y : Operand} {v : Value} {xs : List (List Int)} {el : List Int} {b1 b2 l1 c1 m2 sz2 : Nat} {S1 : List HP}
    (hx : opd φ x = some (vlit v)) (hy : opd φ y = some (vsb b2 1 m2)) (hp : Pick S [harr b2 1 (List.map vlit) [[.slice (some ⟨b1, 0, none⟩) l1 c1]] sz2, harr b1 1 (fun x : Int => [vint x]) el (c1 * 1), hsl (tS tInt) v xs] S1)
    (hl : l1 = el.length) (hbound : (xs.length + 1) * by' ≤ 140737488355328) (h63 : xs.length + 1 ≤ 140737488355328) :
    EOp P n φ S ⟨d, .call ⟨.builtin .append, #[x, y], #[t, t2]⟩, ty, ps, af, g⟩ (fun q S' => ∃ s : Sv, q = vlit (vsv s) ∧ S' = hsl (tS tInt) (vsv s) (xs ++ [el]) :: S1) := by
  refine eopWeaken ((SEnt.pick hp).trans ((SEnt.pick (B := [harr b1 1 (fun x : Int => [vint x]) el (c1 * 1)]) (.cons (.tail .head) .nil)).trans ((SEnt.pack (rv := fun x => .int .i64 x) (fun _ => rfl) hl)))) ?_
  exact EOp.appR (tr := tInt) hx hy (.cons (.tail .head) (.cons .head (.cons .head .nil))) hbound h63

theorem Elts.one1 {m : Nat} {x : Operand} {v : Value} {lp : List (Nat × Operand)} {zs : List (List Value)} [One (vlit v)] (hx : opd φ x = some (vlit v)) (h : Elts φ (List.map vlit) (m + 1) lp zs) : Elts φ (List.map vlit) m ((m, x) :: lp) ([v] :: zs) :=
  .cons hx CellsOf.one h
theorem Elts.agg2 {m : Nat} {x : Operand} {u v : Value} {lp : List (Nat × Operand)} {zs : List (List Value)} (hx : opd φ x = some (vagg [vlit u, vlit v])) (h : Elts φ (List.map vlit) (m + 1) lp zs) : Elts φ (List.map vlit) m ((m, x) :: lp) ([u, v] :: zs) :=
  .cons hx CellsOf.agg h
theorem EOpS.slitV {t e k by' len : Nat} {z : Value} [ht : IsSlM P t e k by' z] {zs : List (List Value)} {lp : List (Nat × Operand)} (hp : Elts φ (List.map vlit) 0 lp zs) (hk : ∀ z ∈ zs, (List.map vlit z).length = k) (hl : len = zs.length) (hsm : Nat.ble (len * k) 16777216 = true) :
    EOpS P n φ S ⟨d, .buildSlice t len lp.toArray, ty, ps, af, g⟩ (fun q S' => ∃ b, q = vsb b len len ∧ S' = harr b k (List.map vlit) zs (len * k) :: S) := EOpS.slit _ zs hk hp hl hsm

/-- rs in place of the parts of qs from o on -/
inductive SetV : List VP → Nat → List VP → List VP → Prop
  | nil {qs : List VP} : SetV qs 0 [] qs
  | hit {q r : VP} {qs rs qs' : List VP} : SetV qs 0 rs qs' → SetV (q :: qs) 0 (r :: rs) (r :: qs')
  | skip {q : VP} {qs rs qs' : List VP} {o : Nat} : SetV qs o rs qs' → SetV (q :: qs) (o + 1) rs (q :: qs')
theorem SetV.eq {qs rs qs' : List VP} {o : Nat} (h : SetV qs o rs qs') : setV qs o rs = qs' := by
  induction h with
  | nil => simp [setV]
  | hit _ ih => simp [setV] at ih ⊢; exact ih
  | skip _ ih => simp [setV] at ih ⊢; rw [show ∀ a b : Nat, a + 1 + b = (a + b) + 1 from fun a b => by omega, List.drop_succ_cons]; exact ih
theorem SetV.set1 {qs qs' : List VP} {o : Nat} {p : VP} (h : SetV qs o [p] qs') : qs.set o p = qs' ∧ Nat.blt o qs.length = true := by
  induction qs generalizing o qs' with
  | nil => cases h
  | cons q qs ih =>
    cases h with
    | hit h => cases h; exact ⟨rfl, by simp [Nat.blt]⟩
    | skip h =>
      obtain ⟨h1, h2⟩ := ih h
      have := Nat.blt_eq.mp h2
      exact ⟨by rw [List.set_cons_succ, h1], Nat.blt_eq.mpr (by simpa using this)⟩
theorem UOp.storePtrS {t : TypeId} {x y : Operand} {b o : Nat} {gg : Bool} {qs qs' : List VP} {p : VP} {C : HP → List HP} [One p] [ht : IsVar P t gg 1] (hx : opd φ x = some (vptr b o)) (hy : opd φ y = some p)
    (u' : Plc S (hcells b qs) C) (hq : SetV qs o [p] qs') : UOp P n φ S ⟨d, .store t x y, ty, ps, af, g⟩ (fun S'' => S'' = C (hcells b qs')) := by
  obtain ⟨h1, h2⟩ := hq.set1
  rw [← h1]; exact UOp.storePtr hx hy u' h2
theorem Parts.consV {pl : List (Nat × Nat)} {qs rs q1 qs' : List VP} {i o k : Nat} {x : Operand} {p : VP} {ps : List (Nat × Operand)} (h1 : pl[i]? = some (o, k)) (h2 : opd φ x = some p) (h3 : CellsOf p rs) (h4 : rs.length = k) (h5 : Nat.ble (o + k) qs.length = true) (h6 : SetV qs o rs q1)
    (h7 : Parts φ pl q1 ps qs') : Parts φ pl qs ((i, x) :: ps) qs' := .cons h1 h2 h3 h4 h5 (h6.eq ▸ h7)

/-- k parts of qs from o on -/
inductive Cut : List VP → Nat → Nat → List VP → Prop
  | nil {qs : List VP} : Cut qs 0 0 []
  | take {q : VP} {qs rs : List VP} {k : Nat} : Cut qs 0 k rs → Cut (q :: qs) 0 (k + 1) (q :: rs)
  | drop {q : VP} {qs rs : List VP} {o k : Nat} : Cut qs o k rs → Cut (q :: qs) (o + 1) k rs
theorem Cut.eq {qs rs : List VP} {o k : Nat} (h : Cut qs o k rs) : (qs.drop o).take k = rs ∧ rs.length = k := by
  induction h with
  | nil => simp
  | take _ ih => simp at ih ⊢; exact ih
  | drop _ ih => simpa using ih

theorem VOp.loadPtrC {t : Nat} {x : Operand} {b o : Nat} {qs rs : List VP} {k : Nat} [ht : IsVar P t true k] (hx : opd φ x = some (vptr b o)) (hh : Has S (hcells b qs)) (hc : Cut qs o k rs) :
    VOp P n φ S ⟨d, .load t x, ty, ps, af, g⟩ (vagg rs) := by
  have h := hc.eq
  have := VOp.loadPtrAgg (d := d) (ty := ty) (ps := ps) (af := af) (g := g) (n := n) (ht := ht) hx hh (by rw [h.1]; exact h.2)
  rw [h.1] at this; exact this
theorem VOp.fieldFpC {t i o k : Nat} [ht : IsFld P t i o k] {x : Operand} {qs rs : List VP} (hx : opd φ x = some (vfp qs)) (hc : Cut qs o k rs) : VOp P n φ S ⟨d, .fieldAddr t x i, ty, ps, af, g⟩ (vfp rs) := by
  have h := hc.eq
  have := VOp.fieldFp (d := d) (ty := ty) (ps := ps) (af := af) (g := g) (n := n) (S := S) (ht := ht) hx
  rw [h.1] at this; exact this
end

section
variable {P : Program} {n : Nat} {ops : Array Oper} {o : Oper} {l : List Oper} {K : Slots → List HP → Prop} {φ : Slots} {S : List HP}

theorem focusRow {α : Type} {t : TR α} {v : Value} {xs : List (List α)} {i : Nat} {S1 : List HP} (hi : i < xs.length) {c : Ctx} {f : List Nat} {fs : List (List Nat)} (hs : SHf c (hsl (tS t) v xs :: S1) (f :: fs)) :
    ∃ u gs, SHf c (hsl t u (xs[i]'hi) :: hsl (tHole (tS t)) v ((xs.map .inl).set i (.inr [u])) :: S1) gs := by
  obtain ⟨us, gs, h1, h2⟩ := focusS hi hs
  match us, h1 with
  | [u], _ =>
    obtain ⟨gs', h3⟩ := SEnt.unS _ _ h2
    exact ⟨u, gs', h3⟩

/-- one row is taken out -/
theorem RH.focusRow {α : Type} {t : TR α} {v : Value} {xs : List (List α)} {S1 : List HP} (i : Nat) (row : List α) (hr : Rem S (hsl (tS t) v xs) S1) (hi : xs[i]? = some row)
    (h : ∀ u, RH P n ops o l K φ (hsl t u row :: hsl (tHole (tS t)) v ((xs.map .inl).set i (.inr [u])) :: S1)) : RH P n ops o l K φ S := by
  refine ⟨fun c a k hl hf hs => ?_⟩
  obtain ⟨fs, f, hs⟩ := hs.rem hr
  obtain ⟨hi', rfl⟩ := List.getElem?_eq_some_iff.1 hi
  obtain ⟨u, gs, h2⟩ := Go.Proofs.YtemfpennomelaaaDoor.focusRow hi' hs
  exact (h u).run c a k hl hf ⟨gs, h2⟩

end

section
variable {P : Program} {n : Nat} {φ : Slots} {S : List HP} {d : Option Tmp} {ty : TypeId} {ps : String} {af : Array Edge} {g : Option (Nat × Bool)}
theorem UOp.storeHI {t : TypeId} {x y : Operand} {gg : Bool} {v : Value} {xs : List Int} {i : Nat} {z : Int} {C : HP → List HP} [ht : IsVar P t gg 1]
    (hx : opd φ x = some (vep v 1 i 0)) (hy : opd φ y = some (vint z)) (u' : Plc S (hsl tInt v xs) C) (hi : i < xs.length) : UOp P n φ S ⟨d, .store t x y, ty, ps, af, g⟩ (fun S'' => S'' = C (hsl tInt v (xs.set i z))) :=
  UOp.storeH (rv := fun x => .int .i64 x) hx hy u' hi
end

/-- the same chunks, with no append left -/
inductive AppN : List HP → List HP → Prop
  | nil : AppN [] []
  | cons {h : HP} {S T : List HP} : AppN S T → AppN (h :: S) (h :: T)
  | app0 {S T : List HP} : AppN S T → AppN ([] ++ S) T
  | app {h : HP} {l S T : List HP} : AppN (l ++ S) T → AppN ((h :: l) ++ S) (h :: T)
theorem AppN.eq {S T : List HP} (h : AppN S T) : S = T := by
  induction h with
  | nil => rfl
  | cons _ ih => rw [ih]
  | app0 _ ih => simpa using ih
  | app _ ih => simpa using ih
section
variable {P : Program} {n : Nat} {ops : Array Oper} {l : List Oper} {K : Slots → List HP → Prop} {φ : Slots} {S T : List HP} {id m : Nat} {W : Nat → Bool} {listed : Array Bool}
theorem RL.norm (h : AppN S T) (hr : RL P n ops l K φ T) : RL P n ops l K φ S := h.eq ▸ hr
theorem RD.norm (h : AppN S T) (hr : RD P n id ops W K m listed φ T) : RD P n id ops W K m listed φ S := h.eq ▸ hr
end
end Go.Proofs.YtemfpennomelaaaDoor

/- Stores of whole elements into owned slices: an element that was made before is put in its place. Proved for every program P; conditions: the index in bounds. -/
namespace Go.Proofs.YtemfpennomelaaaDoor
open Go
set_option linter.unusedVariables false

section
variable {P : Program} {n : Nat} {φ : Slots} {S : List HP} {d : Option Tmp} {ty : TypeId} {ps : String} {af : Array Edge} {g : Option (Nat × Bool)}

/-- the cells of a value, known one by one -/
inductive CellsLit : VP → List Value → Prop
  | one {v : Value} [One (vlit v)] : CellsLit (vlit v) [v]
  | two {u v : Value} [One (vlit u)] [One (vlit v)] : CellsLit (vagg [vlit u, vlit v]) [u, v]

theorem CellsLit.cells {p : VP} {ws : List Value} (h : CellsLit p ws) {c : Ctx} {v : Value} (hp : p.p c v) : v.cells.toList = ws ∧ ∀ u ∈ ws, u.oneCell' = true := by
  cases h with
  | @one w ho =>
    cases hp
    have h1 := ho.one c _ rfl
    have h2 := one_cells (c := c) (p := vlit v) (v := v) rfl
    refine ⟨by rw [h2], by simpa using h1⟩
  | @two u w hu hw =>
    obtain ⟨vs, rfl, h⟩ := hp
    cases h with
    | cons h1 h2 =>
      cases h2 with
      | cons h3 h4 =>
        cases h4
        cases h1; cases h3
        refine ⟨by simp [Value.cells], fun x hx => ?_⟩
        simp only [List.mem_cons, List.not_mem_nil, or_false] at hx
        rcases hx with rfl | rfl
        · exact hu.one c _ rfl
        · exact hw.one c _ rfl

/-- a store into an element that is taken out -/
theorem storeHoleU {t : TypeId} {x y : Operand} {gg : Bool} {α : Type} {T : TR α} {k : Nat} {v : Value} {xs : List α} {i : Nat} {us ws : List Value} {p : VP} {S1 : List HP} [ht : IsVar P t gg k]
    (hx : opd φ x = some (vep v k i 0)) (hy : opd φ y = some p) (hc : CellsLit p ws) (hk : T.k = k) (hw : ws.length = k) (hi : i < xs.length) :
    UOp P n φ (hsl (tHole T) v ((xs.map .inl).set i (.inr us)) :: S1) ⟨d, .store t x y, ty, ps, af, g⟩ (fun S'' => S'' = hsl (tHole T) v ((xs.map .inl).set i (.inr ws)) :: S1) := by
  refine ⟨fun c a hf ⟨fs, hsf⟩ => ?_⟩
  subst hk
  obtain ⟨hcells, hone⟩ := hc.cells (hf.opd hy)
  obtain ⟨f1, f, f2, rfl, hA, hp, hB⟩ := SHf.middle (A := []) hsf
  cases hA
  rcases hp with ⟨h0, _, _⟩ | ⟨b, cap, arr, tt, vss, fss, rfl, hb, hsz, hcap, hr, htk, rfl⟩
  · have := congrArg List.length h0; simp at this; subst this; simp at hi
  · have hx' : a.eval x = .pointer (some ⟨b, 0 + (i * T.k + 0), none⟩) := hf.opd hx
    rw [Nat.zero_add, Nat.add_zero] at hx'
    obtain ⟨v1, us', v2, g1, gg', g2, rfl, rfl, h3, h4, h5, h6⟩ := hr.at i (.inr us) (by simp [hi])
    obtain ⟨rfl, rfl, hul, _⟩ := h5
    have hk : (tHole T).k = T.k := rfl
    have hcap' : xs.length ≤ cap := by simpa using hcap
    have hfitL : xs.length * T.k ≤ arr.size := by rw [hsz]; exact Nat.mul_le_mul_right _ hcap'
    have hfit : i * T.k + ws.length ≤ arr.size := by
      have h7 : (i + 1) * T.k ≤ xs.length * T.k := Nat.mul_le_mul_right _ hi
      rw [Nat.succ_mul] at h7; omega
    have hrun := run_put (P := P) (vs := ws) hb hfit hone
    have hlt : b < c.w.heap.size := (Array.getElem?_eq_some_iff.1 hb).1
    have hbo := hsf.own b (by simp)
    let arr' := (arr.toList.take (i * T.k) ++ ws ++ arr.toList.drop (i * T.k + ws.length)).toArray
    have hl : c.le ⟨c.F, c.U, setW c.w b arr' tt⟩ := ⟨fun _ h => h, rfl, fun k hk => setW_other (fun e => hk.elim (fun h => hbo.1 (e ▸ h)) (fun h => hbo.2.1 (e ▸ h))), by simp [setW_size], rfl, rfl, rfl⟩
    have hnd : (b :: (g1 ++ [] :: g2).flatten).Nodup := by
      have := hsf.nodup
      simp only [List.nil_append, List.flatten_cons, List.nodup_append] at this
      simpa using this.1
    have hlen : ((xs.map Sum.inl).set i (Sum.inr us') : List (α ⊕ List Value)).length = xs.length := by simp
    have hs' := SHf.replace (A := []) (f1 := []) (h' := hsl (tHole T) (.slice (some ⟨b, 0, none⟩) xs.length cap) ((xs.map .inl).set i (.inr ws))) (f' := b :: (g1 ++ [] :: g2).flatten) hl hsf .nil hB (fun _ => .rfl) (fun k _ hk => setW_other (fun e => by subst e; simp at hk)) (by
        intro k hk
        refine ⟨.inl hk, ?_⟩
        have := (hsf.own k (by simp only [List.nil_append, List.flatten_cons, List.mem_append]; exact .inl hk)).2.2
        simpa [setW_size] using this) hnd (by
      have hnew := setW_at (w := c.w) (arr := arr') (t := tt) hlt
      refine .inr ⟨b, cap, arr', tt, v1 ++ ws :: v2, g1 ++ [] :: g2, by simp, hnew, by rw [← hsz]; exact put_size hfit, by simpa using hcap', ?_, ?_, rfl⟩
      · have := h6 (.inr ws) ws [] ⟨c.F, c.U, setW c.w b arr' tt⟩ ⟨rfl, rfl, hw, hone⟩ hl.v (fun k hk => setW_other (fun e => ?_)) (fun k hk => setW_other (fun e => ?_))
        · simpa using this
        · subst e; simp only [List.nodup_cons, List.flatten_append, List.mem_append] at hnd; exact hnd.1 (.inl hk)
        · subst e; simp only [List.nodup_cons, List.flatten_append, List.mem_append, List.flatten_cons] at hnd; exact hnd.1 (.inr (.inr hk))
      · have hfitL' : ((xs.map Sum.inl).set i (Sum.inr us') : List (α ⊕ List Value)).length * (tHole T).k ≤ arr.size := by rw [hlen, hk]; exact hfitL
        have := rows_put (t := tHole T) (ws := ws) hfitL' htk h4 hul hw
        simpa [hk, arr'] using this)
    refine ⟨_, c.F, _, ?_, hl, ⟨_, hs'⟩, by simp⟩
    have e1 : (a.eval y).cells.size = T.k := by rw [← Array.length_toList, hcells, hw]
    simp [execOp, hx', Instr.storeAt, Instr.sureAddr, storeVar, hcells, e1, ht.s, hrun, arr']

/-- an element that was made before is put in its place -/
theorem UOp.storeEl {t : TypeId} {x y : Operand} {gg : Bool} {α : Type} {T : TR α} {k : Nat} {v : Value} {xs : List α} {i : Nat} {ws : List Value} {el : α} {p : VP} {S1 : List HP} [ht : IsVar P t gg k]
    (hx : opd φ x = some (vep v k i 0)) (hy : opd φ y = some p) (hc : CellsLit p ws) (hp : Pick S [hsl T v xs, hel T el ws] S1) (hk : T.k = k) (hi : i < xs.length) :
    UOp P n φ S ⟨d, .store t x y, ty, ps, af, g⟩ (fun S'' => S'' = hsl T v (xs.set i el) :: S1) := by
  refine ⟨fun c a hf ⟨fs, hsf⟩ => ?_⟩
  obtain ⟨gs, hg, _⟩ := hp.sh hsf
  obtain ⟨f, gs', rfl, _⟩ := hg.head
  obtain ⟨us, gs2, _, h2⟩ := focusS hi hg
  obtain ⟨gs3, h3⟩ := SEnt.drop _ _ h2
  have hw : ws.length = k := by
    obtain ⟨gs4, h4⟩ := (SEnt.pick (B := [hel T el ws]) (.cons (.tail .head) .nil)) _ _ h3
    obtain ⟨f4, gs5, _, h5⟩ := h4.head
    rw [← hk]; exact T.len h5
  obtain ⟨w', F', S', he, hl, ⟨gs6, h6⟩, rfl⟩ := (storeHoleU (P := P) (n := n) (φ := φ) (d := d) (ty := ty) (ps := ps) (af := af) (g := g) (t := t) (us := us) hx hy hc hk hw hi).run c a hf ⟨gs3, h3⟩
  obtain ⟨gs7, h7⟩ := (SEnt.pick (B := [hel T el ws]) (.cons (.tail .head) .nil)) _ _ h6
  obtain ⟨gs8, h8⟩ := (SEnt.unfocus hi) _ _ h7
  exact ⟨w', F', _, he, hl, ⟨gs8, h8⟩, rfl⟩

/-- a row is put in its place -/
theorem UOp.storeRow {t : TypeId} {x y : Operand} {gg : Bool} {α : Type} {T : TR α} {v u : Value} {xs : List (List α)} {i : Nat} {el : List α} {S1 : List HP} [ht : IsVar P t gg 1] [One (vlit u)]
    (hx : opd φ x = some (vep v 1 i 0)) (hy : opd φ y = some (vlit u)) (hp : Pick S [hsl T u el, hsl (tS T) v xs] S1) (hi : i < xs.length) :
    UOp P n φ S ⟨d, .store t x y, ty, ps, af, g⟩ (fun S'' => S'' = hsl (tS T) v (xs.set i el) :: S1) := by
  refine ⟨fun c a hf ⟨fs, hsf⟩ => ?_⟩
  obtain ⟨gs, hg, _⟩ := hp.sh hsf
  obtain ⟨gs2, h2⟩ := SEnt.elS _ _ hg
  exact (UOp.storeEl (P := P) (n := n) (φ := φ) (T := tS T) (el := el) (ws := [u]) hx hy CellsLit.one (.cons (.tail .head) (.cons .head .nil)) rfl hi).run c a hf ⟨gs2, h2⟩
end

end Go.Proofs.YtemfpennomelaaaDoor

/- Structs with owned slices as elements of owned slices: stores, taking one out and putting it back, what a frozen one is. Proved for every program P; conditions: the index in bounds. -/
namespace Go.Proofs.YtemfpennomelaaaDoor
open Go
set_option linter.unusedVariables false

theorem SHf.join {c : Ctx} {S : List HP} {f1 f2 : List Nat} {fs : List (List Nat)} {h1 h2 k : HP} (hs : SHf c (h1 :: h2 :: S) (f1 :: f2 :: fs)) (hk : k.p c (f1 ++ f2)) : SHf c (k :: S) ((f1 ++ f2) :: fs) := by
  obtain ⟨ha, hnd, hown, hfro, hdis⟩ := hs
  cases ha with
  | cons _ hr => cases hr with
    | cons _ hr => exact ⟨.cons hk hr, by simpa [List.append_assoc] using hnd, fun b hb => hown b (by simpa [List.append_assoc] using hb), hfro, hdis⟩
theorem SHf.part {c : Ctx} {S : List HP} {f1 f2 : List Nat} {fs : List (List Nat)} {h1 h2 k : HP} (hs : SHf c (k :: S) ((f1 ++ f2) :: fs)) (hk1 : h1.p c f1) (hk2 : h2.p c f2) : SHf c (h1 :: h2 :: S) (f1 :: f2 :: fs) := by
  obtain ⟨ha, hnd, hown, hfro, hdis⟩ := hs
  cases ha with
  | cons _ hr => exact ⟨.cons hk1 (.cons hk2 hr), by simpa [List.append_assoc] using hnd, fun b hb => hown b (by simpa [List.append_assoc] using hb), hfro, hdis⟩
theorem SHf.two {c : Ctx} {S : List HP} {fs : List (List Nat)} {h1 h2 : HP} (hs : SHf c (h1 :: h2 :: S) fs) : ∃ f1 f2 gs, fs = f1 :: f2 :: gs ∧ h1.p c f1 ∧ h2.p c f2 := by
  obtain ⟨ha, _⟩ := hs
  cases ha with
  | cons hp hr => cases hr with
    | cons hq hr => exact ⟨_, _, _, rfl, hp, hq⟩

/-- two owned slices as an element, and back -/
theorem SEnt.elPP {α β : Type} {t : TR α} {u : TR β} {v w : Value} {xs : List α} {ys : List β} {S : List HP} : SEnt (hsl t v xs :: hsl u w ys :: S) (hel (tPair (tS t) (tS u)) (xs, ys) [v, w] :: S) := fun c fs hs => by
  obtain ⟨f1, f2, gs, rfl, hp, hq⟩ := hs.two
  exact ⟨_, hs.join ⟨[v], [w], f1, f2, rfl, rfl, ⟨v, rfl, hp⟩, w, rfl, hq⟩⟩
theorem unPP {α β : Type} {t : TR α} {u : TR β} {z : List α × List β} {us : List Value} {S : List HP} {c : Ctx} {fs : List (List Nat)} (hs : SHf c (hel (tPair (tS t) (tS u)) z us :: S) fs) :
    ∃ v w gs, us = [v, w] ∧ SHf c (hsl t v z.1 :: hsl u w z.2 :: S) gs := by
  obtain ⟨f, gs, rfl, v1, v2, f1, f2, h1, rfl, ⟨v, rfl, h3⟩, w, rfl, h4⟩ := hs.head
  exact ⟨v, w, _, h1, hs.part h3 h4⟩
section
variable {P : Program} {n : Nat} {φ : Slots} {S : List HP} {d : Option Tmp} {ty : TypeId} {ps : String} {af : Array Edge} {g : Option (Nat × Bool)}

/-- a struct of a number and a slice is put in its place -/
theorem UOp.storePI {t : TypeId} {x y : Operand} {gg : Bool} {α : Type} {T : TR α} {v u : Value} {a : Int} {xs : List (Int × List α)} {i : Nat} {el : List α} {S1 : List HP} [ht : IsVar P t gg 2] [One (vlit u)]
    (hx : opd φ x = some (vep v 2 i 0)) (hy : opd φ y = some (vagg [vint a, vlit u])) (hp : Pick S [hsl T u el, hsl (tPair tInt (tS T)) v xs] S1) (hi : i < xs.length) :
    UOp P n φ S ⟨d, .store t x y, ty, ps, af, g⟩ (fun S'' => S'' = hsl (tPair tInt (tS T)) v (xs.set i (a, el)) :: S1) := by
  refine ⟨fun c ac hf ⟨fs, hsf⟩ => ?_⟩
  obtain ⟨gs, hg, _⟩ := hp.sh hsf
  obtain ⟨gs2, h2⟩ := (SEnt.elP (rv := fun x : Int => .int .i64 x) (ho := fun _ => rfl) (y := a)) _ _ hg
  exact (UOp.storeEl (P := P) (n := n) (φ := φ) (T := tPair tInt (tS T)) (el := (a, el)) (ws := [.int .i64 a, u]) hx hy CellsLit.two (.cons (.tail .head) (.cons .head .nil)) rfl hi).run c ac hf ⟨gs2, h2⟩

/-- a struct of two slices is put in its place -/
theorem UOp.storePP {t : TypeId} {x y : Operand} {gg : Bool} {α β : Type} {T : TR α} {U : TR β} {v u w : Value} {xs : List (List α × List β)} {i : Nat} {el : List α} {em : List β} {S1 : List HP} [ht : IsVar P t gg 2] [One (vlit u)] [One (vlit w)]
    (hx : opd φ x = some (vep v 2 i 0)) (hy : opd φ y = some (vagg [vlit u, vlit w])) (hp : Pick S [hsl T u el, hsl U w em, hsl (tPair (tS T) (tS U)) v xs] S1) (hi : i < xs.length) :
    UOp P n φ S ⟨d, .store t x y, ty, ps, af, g⟩ (fun S'' => S'' = hsl (tPair (tS T) (tS U)) v (xs.set i (el, em)) :: S1) := by
  refine ⟨fun c ac hf ⟨fs, hsf⟩ => ?_⟩
  obtain ⟨gs, hg, _⟩ := hp.sh hsf
  obtain ⟨gs2, h2⟩ := SEnt.elPP _ _ hg
  exact (UOp.storeEl (P := P) (n := n) (φ := φ) (T := tPair (tS T) (tS U)) (el := (el, em)) (ws := [u, w]) hx hy CellsLit.two (.cons (.tail .head) (.cons .head .nil)) rfl hi).run c ac hf ⟨gs2, h2⟩

/-- the struct that is taken out, read as a whole -/
theorem VOp.loadHoleAgg {t : Nat} {x : Operand} {α : Type} {tr : TR α} {v : Value} {xs : List α} {i : Nat} {us : List Value} {k k' : Nat} [ht : IsVar P t true k'] (hx : opd φ x = some (vep v k i 0)) (hh : Has S (hsl (tHole tr) v ((xs.map .inl).set i (.inr us))))
    (hk : tr.k = k) (hk2 : k = k') (hi : i < xs.length) : VOp P n φ S ⟨d, .load t x, ty, ps, af, g⟩ (vagg (us.map vlit)) := by
  refine ⟨fun c a hf ⟨fs, hs⟩ => ?_⟩
  subst hk; subst hk2
  obtain ⟨f, _, hp⟩ := hh.get hs.all
  rcases hp with ⟨h0, _, _⟩ | ⟨b, cap, arr, tt, vss, fss, rfl, hb, hsz, hcap, hr, htk, _⟩
  · have := congrArg List.length h0; simp at this; subst this; simp at hi
  · have hx' : a.eval x = .pointer (some ⟨b, 0 + (i * tr.k + 0), none⟩) := hf.opd hx
    rw [Nat.zero_add, Nat.add_zero] at hx'
    obtain ⟨v1, ws, v2, f1, f, f2, rfl, rfl, h3, h4, h5, _⟩ := hr.at i (.inr us) (by simp [hi])
    obtain ⟨rfl, rfl, hlen, _⟩ := h5
    have hc : cellsAt c b (i * tr.k) (ws.map vlit) := fun j p hp => by
      rw [List.getElem?_map, Option.map_eq_some_iff] at hp
      obtain ⟨u, hu, rfl⟩ := hp
      refine ⟨u, ?_, rfl⟩
      have ho : j < tr.k := by rw [← hlen]; exact (List.getElem?_eq_some_iff.1 hu).1
      have hk : (tHole tr).k = tr.k := rfl
      rw [hk] at h4 htk
      simp only [List.length_set, List.length_map] at htk
      have hlt : i * tr.k + j < xs.length * tr.k := by
        calc i * tr.k + j < i * tr.k + tr.k := by omega
          _ = (i + 1) * tr.k := by rw [Nat.succ_mul]
          _ ≤ xs.length * tr.k := Nat.mul_le_mul_right _ hi
      have : (arr.toList.take (xs.length * tr.k))[i * tr.k + j]? = some u := by
        rw [htk, List.flatten_append, List.getElem?_append_right (by omega), h4, List.flatten_cons, Nat.add_sub_cancel_left, List.getElem?_append_left (by omega)]; exact hu
      rw [List.getElem?_take, if_pos hlt] at this
      rw [cell_row hb]; simpa using this
    obtain ⟨u, h6, h7⟩ := run_var ht (by simpa using hlen) hc (.inl rfl)
    exact ⟨u, by intro w' hw'; have h6 := h6 w' hw'; simp [execOp, hx', Instr.loadAt, Instr.sureAddr, h6], h7⟩
end

section
variable {P : Program} {n : Nat} {ops : Array Oper} {o : Oper} {l : List Oper} {K : Slots → List HP → Prop} {φ : Slots} {S : List HP}
theorem RH.focusPP {α β : Type} {t : TR α} {u : TR β} {v : Value} {xs : List (List α × List β)} {S1 : List HP} (i : Nat) (z : List α × List β) (hr : Rem S (hsl (tPair (tS t) (tS u)) v xs) S1) (hi : xs[i]? = some z)
    (h : ∀ u1 u2, RH P n ops o l K φ (hsl t u1 z.1 :: hsl u u2 z.2 :: hsl (tHole (tPair (tS t) (tS u))) v ((xs.map .inl).set i (.inr [u1, u2])) :: S1)) : RH P n ops o l K φ S := by
  refine ⟨fun c a k hl hf hs => ?_⟩
  obtain ⟨fs, f, hs⟩ := hs.rem hr
  obtain ⟨hi', rfl⟩ := List.getElem?_eq_some_iff.1 hi
  obtain ⟨us, gs, _, h2⟩ := focusS hi' hs
  obtain ⟨u1, u2, gs, rfl, h3⟩ := unPP h2
  exact (h u1 u2).run c a k hl hf ⟨gs, h3⟩
theorem SEnt.unfocusPP {α β : Type} {t : TR α} {w : TR β} {v u1 u2 : Value} {xs : List (List α × List β)} {y : List α} {z : List β} {S1 : List HP} {i : Nat} (hi : i < xs.length) :
    SEnt (hsl t u1 y :: hsl w u2 z :: hsl (tHole (tPair (tS t) (tS w))) v ((xs.map .inl).set i (.inr [u1, u2])) :: S1) (hsl (tPair (tS t) (tS w)) v (xs.set i (y, z)) :: S1) := SEnt.elPP.trans (SEnt.unfocus hi)
end

instance {α : Type} {t : TR α} {r : α → List VP} [h : Frz t r] : Frz (tPair tInt (tS t)) (fun x => [vint x.1, vsl t.k r x.2]) := ⟨fun c x vs f h hF => by
  obtain ⟨v1, v2, f1, f2, rfl, rfl, ⟨rfl, rfl⟩, v, rfl, h4⟩ := h
  exact .cons rfl (.cons (h4.frz (fun b hb => hF b (by simp [hb]))) .nil)⟩
instance {α β : Type} {t : TR α} {u : TR β} {r : α → List VP} {s : β → List VP} [ht : Frz t r] [hu : Frz u s] : Frz (tPair (tS t) (tS u)) (fun x => [vsl t.k r x.1, vsl u.k s x.2]) := ⟨fun c x vs f h hF => by
  obtain ⟨v1, v2, f1, f2, rfl, rfl, ⟨v, rfl, h3⟩, w, rfl, h4⟩ := h
  exact .cons (h3.frz (fun b hb => hF b (by simp [hb]))) (.cons (h4.frz (fun b hb => hF b (by simp [hb]))) .nil)⟩
section
variable {P : Program} {n : Nat} {φ : Slots} {S : List HP} {d : Option Tmp} {ty : TypeId} {ps : String} {af : Array Edge} {g : Option (Nat × Bool)}
theorem VOp.fieldEp {t j o' k2 : Nat} [ht : IsFld P t j o' k2] {x : Operand} {α : Type} {tr : TR α} {v : Value} {xs : List α} {k i o : Nat} (hx : opd φ x = some (vep v k i o)) (hh : Has S (hsl tr v xs)) (hi : i < xs.length) :
    VOp P n φ S ⟨d, .fieldAddr t x j, ty, ps, af, g⟩ (vep v k i (o + o')) := by
  refine ⟨fun c a hf ⟨fs, hs⟩ => ?_⟩
  have h1 : a.eval x = eptr v (i * k + o) := hf.opd hx
  obtain ⟨f, _, hp⟩ := hh.get hs.all
  rcases hp with ⟨rfl, _, _⟩ | ⟨b, cap, arr, tt, vss, fss, rfl, _⟩
  · simp at hi
  · obtain ⟨fs, fl, hu, hfi, ho, hsz, hk⟩ := ht.u
    refine ⟨.pointer (some ⟨b, 0 + (i * k + (o + o')), none⟩), ?_, rfl⟩
    have h1' : a.eval x = .pointer (some ⟨b, 0 + (i * k + o), none⟩) := h1
    intro w' hw'
    simp [execOp, h1', Instr.fieldAt, run_underlying hu, hfi, Instr.sureAddr, fieldPlace, hsz, hk, ho, add_zero_addr, Nat.add_assoc]
end

/-! ### freezing -/
inductive Fz (B : List HP) (φ : Slots) : Slots → Prop
  | nil : Fz B φ []
  | cons {t : Nat} {p q : VP} {ψ : Slots} : φ.get t = some p → LVs B [p] [q] → Fz B φ ψ → Fz B φ ((t, q) :: ψ)
inductive FzC (B : List HP) : List HP → List HP → Prop
  | refl {S : List HP} : FzC B S S
  | keep {h : HP} {S T : List HP} : FzC B S T → FzC B (h :: S) (h :: T)
  | cells {b : Nat} {ps qs : List VP} {S T : List HP} : LVs B ps qs → FzC B S T → FzC B (hcells b ps :: S) (hcells b qs :: T)

theorem Fz.get {B : List HP} {φ ψ : Slots} (h : Fz B φ ψ) : ∀ t q, ψ.get t = some q → ∃ p, φ.get t = some p ∧ LVs B [p] [q] := by
  induction h with
  | nil => intro t q h; cases h
  | @cons t' p q' ψ h1 h2 _ ih =>
    intro t q h
    simp only [Slots.get] at h
    cases hb : Nat.beq t' t with
    | true => obtain rfl := Nat.eq_of_beq_eq_true hb; simp only [hb, cond_true, Option.some.injEq] at h; subst h; exact ⟨p, h1, h2⟩
    | false => simp only [hb, cond_false] at h; exact ih t q h

theorem VPs.of_cellsAt {c : Ctx} {b : Nat} : ∀ {ps : List VP} {o : Nat}, cellsAt c b o ps → ∃ vs, VPs c ps vs ∧ ∀ j v, vs[j]? = some v → c.w.cell? ⟨b, o + j, none⟩ = some v
  | [], o, _ => ⟨[], .nil, by simp⟩
  | p :: ps, o, h => by
    obtain ⟨v, h1, h2⟩ := h 0 p rfl
    obtain ⟨vs, h3, h4⟩ := VPs.of_cellsAt (ps := ps) (o := o + 1) (fun j q hq => by have := h (j + 1) q (by simpa using hq); rwa [Nat.add_assoc, Nat.add_comm 1 j])
    refine ⟨v :: vs, .cons h2 h3, fun j u hu => ?_⟩
    cases j with
    | zero => simp only [List.getElem?_cons_zero, Option.some.injEq] at hu; subst hu; exact h1
    | succ j => have := h4 j u (by simpa using hu); rwa [Nat.add_assoc, Nat.add_comm 1 j] at this

theorem LVs.cells {B : List HP} {ps qs : List VP} (h : LVs B ps qs) {c : Ctx} {fs : List (List Nat)} (hB : All c B fs) (hF : ∀ b ∈ fs.flatten, c.F b) {b : Nat} {f : List Nat} (hp : (hcells b ps).p c f) : (hcells b qs).p c f := by
  obtain ⟨rfl, ⟨arr, tt, h1, h2⟩, h3⟩ := hp
  obtain ⟨vs, h4, h5⟩ := VPs.of_cellsAt h3
  have h6 := h.vps hB hF h4
  refine ⟨rfl, ⟨arr, tt, h1, by rw [h2, h4.length, ← h6.length]⟩, fun j q hq => ?_⟩
  obtain ⟨v, h7, h8⟩ := h6.get j q hq
  exact ⟨v, h5 j v h7, h8⟩

theorem FzC.all {B S T : List HP} (h : FzC B S T) {c : Ctx} {fs : List (List Nat)} (hB : All c B fs) (hF : ∀ b ∈ fs.flatten, c.F b) : ∀ {gs : List (List Nat)}, All c S gs → All c T gs := by
  induction h with
  | refl => exact fun h => h
  | keep _ ih => intro gs h; cases h with | cons hp hr => exact .cons hp (ih hr)
  | cells hl _ ih => intro gs h; cases h with | cons hp hr => exact .cons (hl.cells hB hF hp) (ih hr)

theorem LVs.sl {B : List HP} {α : Type} {t : TR α} {r : α → List VP} {v : Value} {xs : List α} {k : Nat} {ps qs : List VP} (hh : Has B (hsl t v xs)) (hF : Frz t r) (hk : t.k = k) (h : LVs B ps qs) : LVs B (vlit v :: ps) (vsl k r xs :: qs) := .cons (.sl hh hk) h
theorem LVs.cut {B : List HP} {α : Type} {t : TR α} {r : α → List VP} {v : Value} {xs : List α} {k i : Nat} {ps qs : List VP} (hh : Has B (hsl t v xs)) (hF : Frz t r) (hk : t.k = k) (hi : i ≤ xs.length) (h : LVs B ps qs) : LVs B (vlit (cutV v i) :: ps) (vsl k r (xs.take i) :: qs) := .cons (.cut hh hk hi) h
theorem LVs.arr {B : List HP} {b len cap k : Nat} {α : Type} {r : α → List VP} {xs : List α} {ps qs : List VP} (hh : Has B (harr b k r xs (cap * k))) (hl : len = xs.length) (hk : Nat.ble 1 k = true) (h : LVs B ps qs) : LVs B (vsb b len cap :: ps) (vsl k r xs :: qs) := .cons (.arr hh hl hk) h
theorem LVs.refl {B : List HP} {p : VP} {ps qs : List VP} (h : LVs B ps qs) : LVs B (p :: ps) (p :: qs) := .cons .refl h

/-! ### calls in two steps: the arguments first, the contract then -/
section
variable {P : Program} {n : Nat} {ops : Array Oper} {o : Oper} {l : List Oper} {K : Slots → List HP → Prop} {φ : Slots} {S : List HP} {id : Nat} {W : Nat → Bool} {m : Nat} {listed : Array Bool}
theorem RH.callP {d : Nat} {f : FuncId} {xs : List Operand} {ts : Array TypeId} {ps : List VP} (ho : o.op = .call ⟨.value (.func f), xs.toArray, ts⟩) (hd : o.dst = some d)
    (hn : Nat.blt d n = true) (he : Enters P f) (ha : Opds φ xs ps) (h : ∃ R : VP → List HP → Prop, Spec P f ps [] R ∧ ∀ r H, R r H → RL P n ops l K ((d, r) :: φ) (H ++ S)) : RH P n ops o l K φ S :=
  let ⟨_, hv, hk⟩ := h; RH.callF ho hd hn he ha hv hk
theorem RH.callWP {d : Nat} {f : FuncId} {xs : List Operand} {ts : Array TypeId} {ps : List VP} (ho : o.op = .call ⟨.value (.func f), xs.toArray, ts⟩) (hd : o.dst = some d)
    (hn : Nat.blt d n = true) (he : Enters P f) (ha : Opds φ xs ps) (h : ∃ (B S0 : List HP) (R : VP → List HP → Prop), Pick S B S0 ∧ Spec P f ps B R ∧ ∀ r H, R r H → RL P n ops l K ((d, r) :: φ) (H ++ S0)) : RH P n ops o l K φ S :=
  let ⟨_, _, _, hp, hv, hk⟩ := h; RH.callW ho hd hn he ha hp hv hk
theorem RO.callP {d : Nat} {f : FuncId} {xs : List Operand} {ts : Array TypeId} {ps : List VP} (i : Nat) (l' : Array Bool) (hi : ops[i]? = some o) (hl : listed.setIfInBounds i true = l')
    (hw : Wants n ops φ o true) (hd : o.dst = some d) (hn : Nat.blt d n = true) (ho : o.op = .call ⟨.value (.func f), xs.toArray, ts⟩) (he : Enters P f) (ha : Opds φ xs ps)
    (h : ∃ R : VP → List HP → Prop, Spec P f ps [] R ∧ ∀ r H, R r H → RD P n id ops W K m l' ((d, r) :: φ) (H ++ S)) : RO P n id ops W K m listed i φ S :=
  let ⟨_, hv, hk⟩ := h; RO.callF i l' hi hl hw hd hn ho he ha hv hk
end

/-! ### calls to which all that is owned is lent -/
section
variable {P : Program} {n : Nat} {ops : Array Oper} {o : Oper} {l : List Oper} {K : Slots → List HP → Prop} {φ : Slots} {S : List HP} {id : Nat} {W : Nat → Bool} {m : Nat} {listed : Array Bool}
theorem Pick.appendNil : ∀ {S T : List HP}, Pick (S ++ T) S T
  | [], _ => .nil
  | h :: S, T => .cons .head (Pick.appendNil (S := S))
theorem Pick.whole {S : List HP} : Pick S S [] := by have := Pick.appendNil (S := S) (T := []); rwa [List.append_nil] at this
theorem RH.callL {d : Nat} {f : FuncId} {xs : List Operand} {ts : Array TypeId} {ps : List VP} (ho : o.op = .call ⟨.value (.func f), xs.toArray, ts⟩) (hd : o.dst = some d)
    (hn : Nat.blt d n = true) (he : Enters P f) (ha : Opds φ xs ps)
    (h : ∃ qs, LVs S ps qs ∧ ∃ R : VP → List HP → Prop, Spec P f qs [] R ∧ (∀ r H, R r H → NF r ∧ NFHs H) ∧ ∀ r H, R r H → RL P n ops l K ((d, r) :: φ) (H ++ S)) : RH P n ops o l K φ S :=
  let ⟨_, hL, _, hv, hR, hk⟩ := h; RH.callB ho hd hn he ha Pick.whole hL hv hR (fun r H hr => by rw [List.append_nil]; exact hk r H hr)
theorem RO.callL {d : Nat} {f : FuncId} {xs : List Operand} {ts : Array TypeId} {ps : List VP} (i : Nat) (l' : Array Bool) (hi : ops[i]? = some o) (hl : listed.setIfInBounds i true = l')
    (hw : Wants n ops φ o true) (hd : o.dst = some d) (hn : Nat.blt d n = true) (ho : o.op = .call ⟨.value (.func f), xs.toArray, ts⟩) (he : Enters P f) (ha : Opds φ xs ps)
    (h : ∃ qs, LVs S ps qs ∧ ∃ R : VP → List HP → Prop, Spec P f qs [] R ∧ (∀ r H, R r H → NF r ∧ NFHs H) ∧ ∀ r H, R r H → RD P n id ops W K m l' ((d, r) :: φ) (H ++ S)) : RO P n id ops W K m listed i φ S :=
  let ⟨_, hL, _, hv, hR, hk⟩ := h; RO.callB i l' hi hl hw hd hn ho he ha Pick.whole hL hv hR (fun r H hr => by rw [List.append_nil]; exact hk r H hr)
end

theorem Ch.same {S S' T : List HP} {h : HP} (r : Rem S h S') (k : Ch S' T) : Ch S (h :: T) := .cons r rfl k

/-! ### append of one number -/
theorem SEnt.harrV {b sz : Nat} {xs : List Int} {S : List HP} : SEnt (harr b 1 (fun x : Int => [vint x]) xs sz :: S) (harr b 1 (List.map vlit) (xs.map fun x => [.int .i64 x]) sz :: S) := fun c fs hs => by
  obtain ⟨f, gs, rfl, rfl, ⟨arr, tt, hb, hsz, hfit⟩, hE⟩ := hs.head
  refine ⟨_, hs.turn ⟨rfl, ⟨arr, tt, hb, hsz, by simpa using hfit⟩, fun i us hu => ?_⟩⟩
  rw [List.getElem?_map, Option.map_eq_some_iff] at hu
  obtain ⟨x, hx, rfl⟩ := hu
  exact hE i x hx
section
variable {P : Program} {n : Nat} {φ : Slots} {S : List HP} {d : Option Tmp} {ty : TypeId} {ps : String} {af : Array Edge} {g : Option (Nat × Bool)}
theorem EOp.appI {t t2 e e2 k2 by' : Nat} {z : Value} [ht : IsSlM P t e 1 by' z] [h2 : IsSl P t2 e2 k2] {x y : Operand} {v : Value} {xs : List Int} {w : Int} {b2 m2 sz2 : Nat} {S1 : List HP}
    (hx : opd φ x = some (vlit v)) (hy : opd φ y = some (vsb b2 1 m2)) (hp : Pick S [harr b2 1 (fun x : Int => [vint x]) [w] sz2, hsl tInt v xs] S1)
    (hbound : (xs.length + 1) * by' ≤ 140737488355328) (h63 : xs.length + 1 ≤ 140737488355328) :
    EOp P n φ S ⟨d, .call ⟨.builtin .append, #[x, y], #[t, t2]⟩, ty, ps, af, g⟩ (fun q S' => ∃ s : Sv, q = vlit (vsv s) ∧ S' = hsl tInt (vsv s) (xs ++ [w]) :: S1) := by
  refine eopWeaken ((SEnt.pick hp).trans (SEnt.harrV.trans (SEnt.val (fun x : Int => .int .i64 x) (fun _ => rfl) w _))) ?_
  refine ⟨fun c a hf ⟨fs0, hs0⟩ => ?_⟩
  have h1 : EOp P n φ (hel (tVal (fun x : Int => .int .i64 x) (fun _ => rfl)) w [.int .i64 w] :: harr b2 1 (List.map vlit) [[.int .i64 w]] sz2 :: hsl tInt v xs :: S1) ⟨d, .call ⟨.builtin .append, #[x, y], #[t, t2]⟩, ty, ps, af, g⟩ _ :=
    EOp.appH (tr := tInt) hx hy (.tail .head) (.cons .head (.cons (.tail .head) .nil)) rfl hbound h63
  obtain ⟨u, w', F', r, S', he, hle, hr, ⟨fs', hs'⟩, v', rfl, rfl⟩ := h1.run c a hf ⟨fs0, hs0⟩
  obtain ⟨f, gs', rfl, hh⟩ := hs'.head
  obtain ⟨ao, cap, rfl⟩ := ownS.shape hh
  obtain ⟨gs2, hg2⟩ := ((SEnt.pick (B := [harr b2 1 (List.map vlit) [[.int .i64 w]] sz2]) (.cons (.tail .head) .nil)).trans SEnt.drop) _ _ hs'
  exact ⟨u, w', F', _, _, he, hle, hr, ⟨gs2, hg2⟩, (ao, (xs ++ [w]).length, cap), rfl, rfl⟩
end
end Go.Proofs.YtemfpennomelaaaDoor
