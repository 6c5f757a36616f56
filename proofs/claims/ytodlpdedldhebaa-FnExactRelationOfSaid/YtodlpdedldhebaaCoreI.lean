/- A contract beside other owned memory; regions that draw their order: an operation that only yields a value is taken first, others come up alone. Proved for every program P that follows mixed orders; no other conditions. -/
import Derived.Test.YtodlpdedldhebaaCoreG
namespace Go.Proofs.Ytodlpdedldhebaa
open Go
set_option linter.unusedVariables false

/-! ### the frame -/
theorem Args.mono {c c' : Ctx} (h : c.leV c') {ps : List VP} {vs : List Value} (k : Args c ps vs) : Args c' ps vs := by
  induction k with
  | nil => exact .nil
  | cons hp _ ih => exact .cons (VP.mono _ h hp) ih

/-- a contract over no owned memory, beside whatever is owned: what was there is as it was -/
theorem Spec.beside {P : Program} {f : FuncId} {ps : List VP} {R : VP → List HP → Prop} (h : Spec P f ps [] R) {S : List HP} {c : Ctx} {vs : List Value} (ha : Args c ps vs) (hs : SH c S) :
    Calls P f vs.toArray c.w fun e w' => ∃ v F' r H, e = .returned v ∧ c.le ⟨F', c.U, w'⟩ ∧ Same c.w w' ∧ r.p ⟨F', c.U, w'⟩ v ∧ SH ⟨F', c.U, w'⟩ (H ++ S) ∧ R r H := by
  obtain ⟨fs, hs⟩ := hs
  let c1 : Ctx := ⟨c.F, fun b => b < c.w.heap.size ∧ ¬ c.F b, c.w⟩
  have hv : c.leV c1 := ⟨fun _ h => h, fun _ _ => rfl⟩
  have hs1 : SH c1 [] := ⟨[], .nil, by simp, by simp, fun b hb => hb.elim (fun h => hs.fro b (.inl h)) (fun h => h.1), fun b hb hu => hu.2 hb⟩
  refine (h.run c1 vs (ha.mono hv) hs1).mono fun e w' ⟨v, F', r, H, he, hl, hr, ⟨gs, hg⟩, hR⟩ => ?_
  have hsame : Same c.w w' := ⟨fun b hb => by
    by_cases hF : c.F b
    · exact hl.heap b (.inl hF)
    · exact hl.heap b (.inr ⟨hb, hF⟩), hl.size⟩
  have hl' : c.le ⟨F', c.U, w'⟩ := ⟨hl.fr, rfl, fun b hb => hsame.heap b (hs.fro b hb), hl.size, hl.os, hl.tape, hl.output⟩
  have hv' : (⟨F', c1.U, w'⟩ : Ctx).leV ⟨F', c.U, w'⟩ := ⟨fun _ h => h, fun _ _ => rfl⟩
  have hnew : ∀ b ∈ gs.flatten, c.w.heap.size ≤ b := fun b hb => by
    have := hg.own b hb
    apply Classical.byContradiction
    intro hlt
    by_cases hF : c.F b
    · exact this.1 (hl.fr b hF)
    · exact this.2.1 ⟨by omega, hF⟩
  have hold : ∀ b ∈ fs.flatten, ¬ F' b := fun b hb hF' => hg.dis b hF' ⟨(hs.own b hb).2.2, (hs.own b hb).1⟩
  refine ⟨v, F', r, H, he, hl', hsame, r.mono hv' hr, ⟨gs ++ fs, ?_, ?_, ?_, ?_, ?_⟩, hR⟩
  · exact (hg.all.keep hv' fun _ _ => rfl).append (hs.all.keep hl'.v fun b hb => hsame.heap b (hs.own b hb).2.2)
  · rw [List.flatten_append, List.nodup_append]
    refine ⟨hg.nodup, hs.nodup, ?_⟩
    rintro x hx y hy rfl
    have := hnew x hx; have := (hs.own x hy).2.2; omega
  · intro b hb
    rw [List.flatten_append, List.mem_append] at hb
    rcases hb with hb | hb
    · refine ⟨(hg.own b hb).1, fun hu => ?_, (hg.own b hb).2.2⟩
      have := hs.fro b (.inr hu); have := hnew b hb; omega
    · exact ⟨hold b hb, (hs.own b hb).2.1, Nat.lt_of_lt_of_le (hs.own b hb).2.2 hl.size⟩
  · rintro b (hb | hb)
    · exact hg.fro b (.inl hb)
    · exact Nat.lt_of_lt_of_le (hs.fro b (.inr hb)) hl.size
  · intro b hb hu
    by_cases hF : c.F b
    · exact hs.dis b hF hu
    · exact hg.dis b hb ⟨hs.fro b (.inr hu), hF⟩

/-- a contract that leaves what was there as it was -/
structure SpecS (P : Program) (f : FuncId) (ps : List VP) (S : List HP) (R : VP → List HP → Prop) : Prop where
  run : ∀ c vs, Args c ps vs → SH c S → Calls P f vs.toArray c.w fun e w' =>
    ∃ v F' r S', e = .returned v ∧ c.le ⟨F', c.U, w'⟩ ∧ Same c.w w' ∧ r.p ⟨F', c.U, w'⟩ v ∧ SH ⟨F', c.U, w'⟩ S' ∧ R r S'
theorem SpecS.spec {P : Program} {f : FuncId} {ps : List VP} {S : List HP} {R : VP → List HP → Prop} (h : SpecS P f ps S R) : Spec P f ps S R :=
  ⟨fun c vs ha hs => (h.run c vs ha hs).mono fun e w' ⟨v, F', r, H, h1, h2, _, h4⟩ => ⟨v, F', r, H, h1, h2, h4⟩⟩
theorem Spec.frame {P : Program} {f : FuncId} {ps : List VP} {R : VP → List HP → Prop} (h : Spec P f ps [] R) (S : List HP) : Spec P f ps S (fun r S' => ∃ H, R r H ∧ S' = H ++ S) :=
  ⟨fun c vs ha hs => (h.beside ha hs).mono fun e w' ⟨v, F', r, H, h1, h2, _, h4, h5, h6⟩ => ⟨v, F', r, H ++ S, h1, h2, h4, h5, H, h6, rfl⟩⟩

section
variable {P : Program} {n : Nat} {ops : Array Oper} {o : Oper} {l : List Oper} {K : Slots → List HP → Prop} {φ : Slots} {S : List HP}

/-- a call by a contract over no owned memory -/
theorem RH.callF {d : Nat} {f : FuncId} {xs : List Operand} {ts : Array TypeId} {ps : List VP} {R : VP → List HP → Prop} (ho : o.op = .call ⟨.value (.func f), xs.toArray, ts⟩) (hd : o.dst = some d)
    (hn : Nat.blt d n = true) (he : Enters P f) (ha : Opds φ xs ps) (hv : Spec P f ps [] R) (h : ∀ r H, R r H → RL P n ops l K ((d, r) :: φ) (H ++ S)) : RH P n ops o l K φ S :=
  RH.call ho hd hn he ha (hv.frame S) (fun r S' ⟨H, hR, e⟩ => e ▸ h r H hR)

/-! ### regions that draw their order -/
/-- any order that the edges allow; an operation that is not in W leaves the blocks that were there as they were -/
def wpAnyM (P : Program) (ops : Array Oper) (W : Nat → Bool) (QN : Act → World → Prop) : Nat → Array Bool → Act → World → Prop
  | 0, listed, a, w => Region.ready .any ops listed = [] ∧ QN a w
  | fuel + 1, listed, a, w => (Region.ready .any ops listed = [] → QN a w) ∧
    ∀ i ∈ Region.ready .any ops listed, wpOp P ops (fun e a w => e = .normal ∧ QN a w) i (fun a' w' => (W i = true ∨ Same w w') ∧ wpAnyM P ops W QN fuel (listed.setIfInBounds i true) a' w') a w

theorem wpAny_of_M {W : Nat → Bool} {QN : Act → World → Prop} : ∀ (fuel : Nat) (listed : Array Bool) (a : Act) (w : World), wpAnyM P ops W QN fuel listed a w →
    wpAny P .any ops (fun e a w => e = .normal ∧ QN a w) fuel listed a w := by
  intro fuel
  induction fuel with
  | zero => exact fun listed a w h => ⟨h.1, rfl, h.2⟩
  | succ fuel ih => exact fun listed a w h => ⟨fun h0 => ⟨rfl, h.1 h0⟩, fun i hi => wpOp_mono (fun a' w' h' => ih _ a' w' h'.2) (h.2 i hi)⟩

def YM (P : Program) (ops : Array Oper) (o : Oper) (v : Value) (a : Act) (w : World) : Prop :=
  (Region.wanted o (yielded ops a.tmps) = true ∧ ∀ w', Same w w' → (execOp a.eval o).run P w' = .ok (.value v) w') ∨
  (Region.wanted o (yielded ops a.tmps) = false ∧ v = undef)

theorem YM.op {i : Nat} {v : Value} {a : Act} {w : World} {Q : Exit → Act → World → Prop} {K : Act → World → Prop} (hi : ops[i]? = some o) (hy : YM P ops o v a w) (h : K (a.put o.dst v) w) : wpOp P ops Q i K a w := by
  unfold wpOp
  simp only [hi]
  rcases hy with ⟨hw, hv⟩ | ⟨hw, rfl⟩
  · simp only [hw, if_true, Oper.wp, hv w (.refl w), Oper.upon]; exact .inl h
  · simp only [hw, Bool.false_eq_true, if_false]; exact h

theorem YM.keep {v u : Value} {oi oj : Oper} {a : Act} {w w' : World} (hy : YM P ops oi v a w) (hsi : ∀ cs b, oi.op ≠ .select cs b) (h3 : ∀ d, oj.dst = some d → d ∉ oi.looksAt ops) (hw : Same w w') :
    YM P ops oi v (a.put oj.dst u) w' := by
  unfold YM at *
  rw [execOp_put oi hsi a oj.dst u h3, wanted_put oi a oj.dst u h3]
  exact hy.imp (fun h => ⟨h.1, fun w2 h2 => h.2 w2 (hw.trans h2)⟩) id

theorem wpOp_putM {j : Nat} {oi oj : Oper} {v : Value} {QN : Act → World → Prop} (hj : ops[j]? = some oj) (hap : oi.apart ops oj = true) (hsi : ∀ cs b, oi.op ≠ .select cs b) (hsj : ∀ cs b, oj.op ≠ .select cs b)
    {K : Act → World → Prop} {a : Act} {w : World} (hy : YM P ops oi v a w) (h : wpOp P ops (fun e a w => e = .normal ∧ QN a w) j (fun a' w' => Same w w' ∧ K a' w') (a.put oi.dst v) w) :
    wpOp P ops (fun e a w => e = .normal ∧ QN a w) j (fun a' w' => Same w w' ∧ YM P ops oi v a' w' ∧ K (a'.put oi.dst v) w') a w := by
  obtain ⟨h1, h2, h3⟩ := Oper.apart_spec hap
  unfold wpOp at *
  simp only [hj] at *
  rw [wanted_put oj a oi.dst v h1] at h
  split
  · rename_i hw
    simp only [hw, if_true] at h
    rcases h with h | ⟨_, a', w', h0, _⟩
    case inr => cases h0
    refine .inl ?_
    unfold Oper.wp at *
    rw [execOp_put oj hsj a oi.dst v h1] at h
    generalize (execOp a.eval oj).run P w = r at *
    cases r with
    | ok nx w' =>
      cases nx <;> simp only [Oper.upon] at h ⊢
      case value u => exact ⟨h.1, hy.keep hsi h3 h.1, by rw [← Act.put_comm a v u h2]; exact h.2⟩
      case skip => exact ⟨h.1, hy.keep hsi h3 h.1, by rw [← Act.put_comm a v undef h2]; exact h.2⟩
      case defer d =>
        refine ⟨h.1, (YM.keep (a := { a with defers := d :: a.defers }) hy hsi h3 h.1), ?_⟩
        rw [← Act.put_comm _ v undef h2, ← Act.put_defers]
        exact h.2
      case enter f args =>
        refine Calls.mono h fun e w'' he => ?_
        cases e with
        | returned u => exact ⟨he.1, hy.keep hsi h3 he.1, by rw [← Act.put_comm a v u h2]; exact he.2⟩
        | panicked c => cases he.1
        | outgrown => obtain ⟨_, _, h0, _⟩ := he; cases h0
      case row row args => exact Rows.mono h fun u w'' he => ⟨he.1, hy.keep hsi h3 he.1, by rw [← Act.put_comm a v u h2]; exact he.2⟩
    | halt x w' =>
      cases x <;> simp only [Oper.upon] at h ⊢
      case panic u => cases h.1
  · rename_i hw
    simp only [hw] at h
    exact ⟨h.1, hy.keep hsi h3 h.1, by rw [← Act.put_comm a v undef h2]; exact h.2⟩

theorem wpAnyM_first {W D : Nat → Bool} {QN : Act → World → Prop} {i : Nat} {oi : Oper} {v : Value} (hi : ops[i]? = some oi) (hsel : ∀ (j : Nat) (o : Oper) cs b, ops[j]? = some o → o.op ≠ .select cs b)
    (hD : ∀ j oj, ops[j]? = some oj → D j = true → ∃ e ∈ oj.after, Region.binds .any e = true ∧ (e.on = i ∨ D e.on = true)) :
    ∀ (fuel : Nat) (listed : Array Bool) (a : Act) (w : World),
      (∀ j, D j = true → listed.getD j true = false) →
      (∀ j oj, ops[j]? = some oj → j ≠ i → listed.getD j true = false → D j = false → oi.apart ops oj = true ∧ W j = false) →
      i ∈ Region.ready .any ops listed → YM P ops oi v a w →
      wpAnyM P ops W QN fuel (listed.setIfInBounds i true) (a.put oi.dst v) w → wpAnyM P ops W QN (fuel + 1) listed a w := by
  intro fuel
  induction fuel with
  | zero =>
    intro listed a w _ _ hr hy H
    refine ⟨fun h => (by rw [h] at hr; cases hr), fun j hj => ?_⟩
    by_cases hji : j = i
    · subst hji; exact hy.op hi ⟨.inr (.refl w), H⟩
    · have := ready_mono hj hji
      rw [H.1] at this
      cases this
  | succ fuel ih =>
    intro listed a w hlate hfree hr hy H
    refine ⟨fun h => (by rw [h] at hr; cases hr), fun j hj => ?_⟩
    by_cases hji : j = i
    · subst hji; exact hy.op hi ⟨.inr (.refl w), H⟩
    · have h1 := H.2 j (ready_mono hj hji)
      obtain ⟨hjun, oj, hoj, hall⟩ := mem_ready.1 hj
      have hDj : D j = false := by
        cases hd : D j with
        | false => rfl
        | true =>
          obtain ⟨e, he, hb, h2⟩ := hD j oj hoj hd
          have h1 := hall e he hb
          have h0 : listed.getD e.on true = false := by
            rcases h2 with h2 | h2
            · rw [h2]; exact (mem_ready.1 hr).1
            · exact hlate _ h2
          rcases Nat.lt_or_ge e.on listed.size with h' | h'
          · simp [h'] at h0 h1; rw [h0] at h1; cases h1
          · simp [Array.getElem?_eq_none h'] at h1
      have hfj := hfree j oj hoj hji hjun hDj
      have h1' := wpOp_mono (K' := fun a' w' => Same w w' ∧ wpAnyM P ops W QN fuel ((listed.setIfInBounds i true).setIfInBounds j true) a' w') (fun a' w' h => ⟨h.1.resolve_left (by simp [hfj.2]), h.2⟩) h1
      have h2 := wpOp_putM hoj hfj.1 (fun cs b => hsel i oi cs b hi) (fun cs b => hsel j oj cs b hoj) hy h1'
      have hlate' : ∀ k, D k = true → (listed.setIfInBounds j true).getD k true = false := fun k hk => by
        have hjk : j ≠ k := fun e => by rw [e, hk] at hDj; cases hDj
        rw [getD_set_ne true hjk]; exact hlate k hk
      have hfree' : ∀ k ok, ops[k]? = some ok → k ≠ i → (listed.setIfInBounds j true).getD k true = false → D k = false → oi.apart ops ok = true ∧ W k = false := fun k ok hk hki hun hno => by
        refine hfree k ok hk hki ?_ hno
        by_cases hjk : j = k
        · subst hjk; exact hjun
        · rw [getD_set_ne true hjk] at hun; exact hun
      refine wpOp_mono (fun a' w' h3 => ⟨.inr h3.1, ih (listed.setIfInBounds j true) a' w' hlate' hfree' (ready_mono hr (Ne.symm hji)) h3.2.1 ?_⟩) h2
      rw [Array.setIfInBounds_comm _ _ hji]
      exact h3.2.2

/-- whatever may come up ahead of operation i waits for it (D), or is apart from it and leaves old blocks alone -/
def freeW (ops : Array Oper) (W : Nat → Bool) (D listed : Array Bool) (i : Nat) : Bool :=
  Region.noSelect ops &&
  match ops[i]? with
  | none => false
  | some oi => Nat.ble D.size ops.size && (List.range ops.size).all fun j => match ops[j]? with
      | some oj => cond (D.getD j false) (!listed.getD j true && oj.after.any (fun e => Region.binds .any e && (e.on == i || D.getD e.on false))) (j == i || listed.getD j true || (oi.apart ops oj && !W j))
      | none => true

theorem freeW_spec {W : Nat → Bool} {i : Nat} {oi : Oper} {D listed : Array Bool} (hi : ops[i]? = some oi) (hsz : D.size ≤ ops.size) (h : freeW ops W D listed i = true) :
    (∀ j oj, ops[j]? = some oj → D.getD j false = true → ∃ e ∈ oj.after, Region.binds .any e = true ∧ (e.on = i ∨ D.getD e.on false = true)) ∧
    (∀ j, D.getD j false = true → listed.getD j true = false) ∧
    (∀ j oj, ops[j]? = some oj → j ≠ i → listed.getD j true = false → D.getD j false = false → oi.apart ops oj = true ∧ W j = false) := by
  simp only [freeW, hi, List.all_eq_true, List.mem_range, Bool.and_eq_true] at h
  have key : ∀ j oj, ops[j]? = some oj → cond (D.getD j false) (!listed.getD j true && oj.after.any (fun e => Region.binds .any e && (e.on == i || D.getD e.on false))) (j == i || listed.getD j true || (oi.apart ops oj && !W j)) = true := fun j oj hj => by
    have h1 := h.2.2 j (Array.getElem?_eq_some_iff.1 hj).1
    simpa only [hj] using h1
  refine ⟨fun j oj hj hd => ?_, fun j hd => ?_, fun j oj hj hne hun hd => ?_⟩
  · have h1 := key j oj hj
    rw [hd, cond_true, Bool.and_eq_true] at h1
    obtain ⟨e, he, hb⟩ := Array.any_eq_true'.1 h1.2
    simp only [Bool.and_eq_true, Bool.or_eq_true, beq_iff_eq] at hb
    exact ⟨e, he, hb.1, hb.2⟩
  · have hlt : j < D.size := by
      apply Classical.byContradiction
      intro hn
      simp [Array.getD, hn] at hd
    have hlt' : j < ops.size := by omega
    have h1 := key j ops[j] (Array.getElem?_eq_getElem hlt')
    rw [hd, cond_true, Bool.and_eq_true] at h1
    simpa using h1.1
  · have h1 := key j oj hj
    rw [hd, cond_false, Bool.or_eq_true, Bool.or_eq_true, Bool.and_eq_true] at h1
    rcases h1 with (h1 | h1) | h1
    · exact absurd (by simpa using h1) hne
    · rw [hun] at h1; cases h1
    · exact ⟨h1.1, by simpa using h1.2⟩

/-- the guard of an operation is decided -/
inductive Wants (n : Nat) (ops : Array Oper) (φ : Slots) (o : Oper) : Bool → Prop
  | none : o.guard = .none → Wants n ops φ o true
  | yes {j d : Nat} {want : Bool} : o.guard = some (j, want) → (ops[j]?).bind (·.dst) = some d → Nat.blt d n = true → φ.get d = some (vbool want) → Wants n ops φ o true
  | no {j d : Nat} {want : Bool} {v : Value} : o.guard = some (j, want) → (ops[j]?).bind (·.dst) = some d → Nat.blt d n = true → φ.get d = some (vlit v) → isNot want v = true → Wants n ops φ o false

theorem Wants.wanted {b : Bool} {c : Ctx} {a : Act} (h : Wants n ops φ o b) (hf : FH c n φ a) : Region.wanted o (yielded ops a.tmps) = b := by
  cases h with
  | none hg => simp [Region.wanted, hg]
  | yes hg hj hd hv =>
    have hy := yielded_of hf hj (Nat.blt_eq.mp hd) hv
    simp [Region.wanted, hg, hy]
  | @no j d want v hg hj hd hv hno =>
    have hy := yielded_of hf hj (Nat.blt_eq.mp hd) hv
    cases v <;> simp_all [Region.wanted, isNot]

/-- a region that draws its order, some operations done ('listed'), m left -/
structure RD (P : Program) (n : Nat) (id : Nat) (ops : Array Oper) (W : Nat → Bool) (K : Slots → List HP → Prop) (m : Nat) (listed : Array Bool) (φ : Slots) (S : List HP) : Prop where
  run : ∀ c a, FH c n φ a → SH c S → wpAnyM P ops W (fun a' w' => ∃ F' φ' S', c.le ⟨F', c.U, w'⟩ ∧ FH ⟨F', c.U, w'⟩ n φ' a' ∧ SH ⟨F', c.U, w'⟩ S' ∧ K φ' S') m listed a c.w

theorem wpAnyM_mono {W : Nat → Bool} {QN QN' : Act → World → Prop} (hq : ∀ a w, QN a w → QN' a w) : ∀ (m : Nat) (listed : Array Bool) (a : Act) (w : World), wpAnyM P ops W QN m listed a w → wpAnyM P ops W QN' m listed a w := by
  intro m
  induction m with
  | zero => exact fun _ a w h => ⟨h.1, hq _ _ h.2⟩
  | succ m ih =>
    intro listed a w h
    refine ⟨fun h0 => hq _ _ (h.1 h0), fun i hi => ?_⟩
    have h1 := h.2 i hi
    unfold wpOp at *
    split
    · simp only [*] at h1; exact ⟨h1.1, ih _ _ _ h1.2⟩
    · rename_i o ho
      simp only [ho] at h1
      split
      · rename_i hw
        simp only [hw, if_true] at h1
        rcases h1 with h1 | ⟨_, _, _, h0, _⟩
        case inr => cases h0
        refine .inl ?_
        unfold Oper.wp at *
        generalize (execOp a.eval o).run P w = r at *
        cases r with
        | ok nx w' =>
          cases nx <;> simp only [Oper.upon] at h1 ⊢ <;>
            first
              | exact ⟨h1.1, ih _ _ _ h1.2⟩
              | exact Calls.mono h1 (fun e w'' he => by
                  cases e with
                  | returned v => exact ⟨he.1, ih _ _ _ he.2⟩
                  | panicked c => cases he.1
                  | outgrown => obtain ⟨_, _, h0, _⟩ := he; cases h0)
              | exact Rows.mono h1 (fun _ _ he => ⟨he.1, ih _ _ _ he.2⟩)
        | halt x w' => cases x <;> simp only [Oper.upon] at h1 ⊢ <;> cases h1.1
      · rename_i hw
        simp only [hw] at h1
        exact ⟨h1.1, ih _ _ _ h1.2⟩

variable {id : Nat} {W : Nat → Bool} {m : Nat} {listed : Array Bool}

theorem RD.le {c c' : Ctx} {a : Act} (hl : c.le c') (h : wpAnyM P ops W (fun a' w' => ∃ F' φ' S', c'.le ⟨F', c'.U, w'⟩ ∧ FH ⟨F', c'.U, w'⟩ n φ' a' ∧ SH ⟨F', c'.U, w'⟩ S' ∧ K φ' S') m listed a c'.w) :
    wpAnyM P ops W (fun a' w' => ∃ F' φ' S', c.le ⟨F', c.U, w'⟩ ∧ FH ⟨F', c.U, w'⟩ n φ' a' ∧ SH ⟨F', c.U, w'⟩ S' ∧ K φ' S') m listed a c'.w :=
  wpAnyM_mono (fun a w ⟨F', φ', S', h1, h2, h3, h4⟩ => by rw [hl.un] at h1 h2 h3; exact ⟨F', φ', S', hl.trans h1, h2, h3, h4⟩) _ _ _ _ h

theorem RD.done (hr : Region.ready .any ops listed = []) (h : K φ S) : RD P n id ops W K m listed φ S := by
  refine ⟨fun c a hf hs => ?_⟩
  have hq : ∃ F' φ' S', c.le ⟨F', c.U, c.w⟩ ∧ FH ⟨F', c.U, c.w⟩ n φ' a ∧ SH ⟨F', c.U, c.w⟩ S' ∧ K φ' S' := ⟨c.F, φ, S, .refl c, hf, hs, h⟩
  cases m with
  | zero => exact ⟨hr, hq⟩
  | succ m => exact ⟨fun _ => hq, by rw [hr]; simp⟩

theorem RD.take {r : VP} {d : Nat} (i : Nat) (l' : Array Bool) (hi : ops[i]? = some o) (hl : listed.setIfInBounds i true = l') (hw : Wants n ops φ o true) (hd : o.dst = some d) (hn : Nat.blt d n = true) (hr : (Region.ready .any ops listed).contains i = true)
    (D : Array Bool) (hf : freeW ops W D listed i = true) (hv : VOp P n φ S o r) (h : RD P n id ops W K m l' ((d, r) :: φ) S) : RD P n id ops W K (m + 1) listed φ S := by
  subst hl
  refine ⟨fun c a hfh hs => ?_⟩
  obtain ⟨v, he, hp⟩ := hv.run c a hfh hs
  have hsel := Region.noSelect_spec (ops := ops) (by simp only [freeW, Bool.and_eq_true] at hf; exact hf.1)
  obtain ⟨f1, f2, f3⟩ := freeW_spec hi (by simp only [freeW, hi, Bool.and_eq_true] at hf; exact Nat.le_of_ble_eq_true hf.2.1) hf
  refine wpAnyM_first hi hsel f1 m listed a c.w f2 f3 (by simpa using hr) (.inl ⟨hw.wanted hfh, he⟩) ?_
  rw [hd]
  exact h.run c _ (hfh.put (Nat.blt_eq.mp hn) hp) hs

theorem RD.skip {d : Nat} (i : Nat) (l' : Array Bool) (hi : ops[i]? = some o) (hl : listed.setIfInBounds i true = l') (hw : Wants n ops φ o false) (hd : o.dst = some d) (hn : Nat.blt d n = true) (hr : (Region.ready .any ops listed).contains i = true)
    (D : Array Bool) (hf : freeW ops W D listed i = true) (h : RD P n id ops W K m l' ((d, vlit undef) :: φ) S) : RD P n id ops W K (m + 1) listed φ S := by
  subst hl
  refine ⟨fun c a hfh hs => ?_⟩
  have hsel := Region.noSelect_spec (ops := ops) (by simp only [freeW, Bool.and_eq_true] at hf; exact hf.1)
  obtain ⟨f1, f2, f3⟩ := freeW_spec hi (by simp only [freeW, hi, Bool.and_eq_true] at hf; exact Nat.le_of_ble_eq_true hf.2.1) hf
  refine wpAnyM_first hi hsel f1 m listed a c.w f2 f3 (by simpa using hr) (.inr ⟨hw.wanted hfh, rfl⟩) ?_
  rw [hd]
  exact h.run c _ (hfh.put (Nat.blt_eq.mp hn) rfl) hs

/-- operation i is the next one -/
structure RO (P : Program) (n : Nat) (id : Nat) (ops : Array Oper) (W : Nat → Bool) (K : Slots → List HP → Prop) (m : Nat) (listed : Array Bool) (i : Nat) (φ : Slots) (S : List HP) : Prop where
  run : ∀ c a, FH c n φ a → SH c S → wpOp P ops (fun e a' w' => e = .normal ∧ ∃ F' φ' S', c.le ⟨F', c.U, w'⟩ ∧ FH ⟨F', c.U, w'⟩ n φ' a' ∧ SH ⟨F', c.U, w'⟩ S' ∧ K φ' S') i
    (fun a' w' => (W i = true ∨ Same c.w w') ∧ wpAnyM P ops W (fun a' w' => ∃ F' φ' S', c.le ⟨F', c.U, w'⟩ ∧ FH ⟨F', c.U, w'⟩ n φ' a' ∧ SH ⟨F', c.U, w'⟩ S' ∧ K φ' S') m (listed.setIfInBounds i true) a' w') a c.w
theorem RD.o1 (i : Nat) (hr : Region.ready .any ops listed = [i]) (h : RO P n id ops W K m listed i φ S) : RD P n id ops W K (m + 1) listed φ S :=
  ⟨fun c a hf hs => ⟨fun h0 => absurd (hr ▸ h0 : [i] = []) (by simp), fun j hj => by
    rw [hr, List.mem_singleton] at hj; subst hj; exact h.run c a hf hs⟩⟩
theorem RD.o2 (i j : Nat) (hr : Region.ready .any ops listed = [i, j]) (h : RO P n id ops W K m listed i φ S) (h' : RO P n id ops W K m listed j φ S) : RD P n id ops W K (m + 1) listed φ S :=
  ⟨fun c a hf hs => ⟨fun h0 => absurd (hr ▸ h0 : [i, j] = []) (by simp), fun k hk => by
    rw [hr] at hk
    simp only [List.mem_cons, List.not_mem_nil, or_false] at hk
    rcases hk with rfl | rfl
    · exact h.run c a hf hs
    · exact h'.run c a hf hs⟩⟩
theorem RO.split {i j d : Nat} {w b : Bool} (hv : φ.get d = some (vbool b)) (ht : b = true → RO P n id ops W K m listed i ((d, vbool true) :: φ) S) (he : b = false → RO P n id ops W K m listed i ((d, vbool false) :: φ) S) : RO P n id ops W K m listed i φ S := by
  cases b with
  | true => exact ⟨fun c a hf hs => by obtain ⟨F', hle, h1, h2⟩ := (Ent.dup hv) c n a hf hs; exact (ht rfl).run c a ⟨hf.size, hf.defers, fun t p h => by
      simp only [Slots.get] at h
      cases hb : Nat.beq d t with
      | true => obtain rfl := Nat.eq_of_beq_eq_true hb; simp only [hb, cond_true, Option.some.injEq] at h; subst h; exact hf.slot _ _ hv
      | false => simp only [hb, cond_false] at h; exact hf.slot t p h⟩ hs⟩
  | false => exact ⟨fun c a hf hs => by exact (he rfl).run c a ⟨hf.size, hf.defers, fun t p h => by
      simp only [Slots.get] at h
      cases hb : Nat.beq d t with
      | true => obtain rfl := Nat.eq_of_beq_eq_true hb; simp only [hb, cond_true, Option.some.injEq] at h; subst h; exact hf.slot _ _ hv
      | false => simp only [hb, cond_false] at h; exact hf.slot t p h⟩ hs⟩

/-- an operation that comes up alone -/
theorem RO.alone (i : Nat) (l' : Array Bool) (hi : ops[i]? = some o) (hl : listed.setIfInBounds i true = l') (hw : Wants n ops φ o true)
    (h : ∀ c a, FH c n φ a → SH c S → o.wp P a c.w (fun a' w' => (W i = true ∨ Same c.w w') ∧ wpAnyM P ops W (fun a' w' => ∃ F' φ' S', c.le ⟨F', c.U, w'⟩ ∧ FH ⟨F', c.U, w'⟩ n φ' a' ∧ SH ⟨F', c.U, w'⟩ S' ∧ K φ' S') m l' a' w')
      (fun e a' w' => e = .normal ∧ ∃ F' φ' S', c.le ⟨F', c.U, w'⟩ ∧ FH ⟨F', c.U, w'⟩ n φ' a' ∧ SH ⟨F', c.U, w'⟩ S' ∧ K φ' S')) : RO P n id ops W K m listed i φ S := by
  subst hl
  refine ⟨fun c a hf hs => ?_⟩
  unfold wpOp
  simp only [hi]
  rw [if_pos (hw.wanted hf)]
  exact .inl (h c a hf hs)

theorem RO.val {r : VP} {d : Nat} (i : Nat) (l' : Array Bool) (hi : ops[i]? = some o) (hl : listed.setIfInBounds i true = l') (hw : Wants n ops φ o true) (hd : o.dst = some d) (hn : Nat.blt d n = true)
    (hv : VOp P n φ S o r) (h : RD P n id ops W K m l' ((d, r) :: φ) S) : RO P n id ops W K m listed i φ S :=
  RO.alone i l' hi hl hw fun c a hf hs => by
    obtain ⟨v, he, hp⟩ := hv.run c a hf hs
    unfold Oper.wp
    rw [he c.w (.refl _), Oper.upon_value, hd]
    exact ⟨.inr (.refl _), h.run c _ (hf.put (Nat.blt_eq.mp hn) hp) hs⟩

theorem RO.eff {d : Nat} {R : VP → List HP → Prop} (i : Nat) (l' : Array Bool) (hi : ops[i]? = some o) (hl : listed.setIfInBounds i true = l') (hW : W i = true) (hw : Wants n ops φ o true) (hd : o.dst = some d) (hn : Nat.blt d n = true)
    (hv : EOp P n φ S o R) (h : ∀ r S', R r S' → RD P n id ops W K m l' ((d, r) :: φ) S') : RO P n id ops W K m listed i φ S :=
  RO.alone i l' hi hl hw fun c a hf hs => by
    obtain ⟨v, w', F', r, S', he, hle, hp, hs', hR⟩ := hv.run c a hf hs
    unfold Oper.wp
    rw [he, Oper.upon_value, hd]
    exact ⟨.inl hW, RD.le (c' := ⟨F', c.U, w'⟩) hle ((h r S' hR).run ⟨F', c.U, w'⟩ _ ((hf.le hle).put (Nat.blt_eq.mp hn) hp) hs')⟩

theorem RO.unit {R : List HP → Prop} (i : Nat) (l' : Array Bool) (hi : ops[i]? = some o) (hl : listed.setIfInBounds i true = l') (hW : W i = true) (hw : Wants n ops φ o true) (hd : o.dst = none)
    (hv : UOp P n φ S o R) (h : ∀ S', R S' → RD P n id ops W K m l' φ S') : RO P n id ops W K m listed i φ S :=
  RO.alone i l' hi hl hw fun c a hf hs => by
    obtain ⟨w', F', S', he, hle, hs', hR⟩ := hv.run c a hf hs
    unfold Oper.wp
    rw [he, Oper.upon_skip, hd]
    exact ⟨.inl hW, RD.le (c' := ⟨F', c.U, w'⟩) hle ((h S' hR).run ⟨F', c.U, w'⟩ _ (hf.le hle) hs')⟩

/-- an operation that makes memory, and leaves what was there as it was -/
structure EOpS (P : Program) (n : Nat) (φ : Slots) (S : List HP) (o : Oper) (R : VP → List HP → Prop) : Prop where
  run : ∀ c a, FH c n φ a → SH c S → ∃ v w' F' r S', (execOp a.eval o).run P c.w = .ok (.value v) w' ∧ c.le ⟨F', c.U, w'⟩ ∧ Same c.w w' ∧ r.p ⟨F', c.U, w'⟩ v ∧ SH ⟨F', c.U, w'⟩ S' ∧ R r S'

theorem RO.effS {d : Nat} {R : VP → List HP → Prop} (i : Nat) (l' : Array Bool) (hi : ops[i]? = some o) (hl : listed.setIfInBounds i true = l') (hw : Wants n ops φ o true) (hd : o.dst = some d) (hn : Nat.blt d n = true)
    (hv : EOpS P n φ S o R) (h : ∀ r S', R r S' → RD P n id ops W K m l' ((d, r) :: φ) S') : RO P n id ops W K m listed i φ S :=
  RO.alone i l' hi hl hw fun c a hf hs => by
    obtain ⟨v, w', F', r, S', he, hle, hsame, hp, hs', hR⟩ := hv.run c a hf hs
    unfold Oper.wp
    rw [he, Oper.upon_value, hd]
    exact ⟨.inr hsame, RD.le (c' := ⟨F', c.U, w'⟩) hle ((h r S' hR).run ⟨F', c.U, w'⟩ _ ((hf.le hle).put (Nat.blt_eq.mp hn) hp) hs')⟩

theorem RO.callF {d : Nat} {f : FuncId} {xs : List Operand} {ts : Array TypeId} {ps : List VP} {R : VP → List HP → Prop} (i : Nat) (l' : Array Bool) (hi : ops[i]? = some o) (hl : listed.setIfInBounds i true = l')
    (hw : Wants n ops φ o true) (hd : o.dst = some d) (hn : Nat.blt d n = true) (ho : o.op = .call ⟨.value (.func f), xs.toArray, ts⟩) (he : Enters P f) (ha : Opds φ xs ps) (hv : Spec P f ps [] R)
    (h : ∀ r H, R r H → RD P n id ops W K m l' ((d, r) :: φ) (H ++ S)) : RO P n id ops W K m listed i φ S :=
  RO.alone i l' hi hl hw fun c a hf hs => by
    have hx := he (xs.map a.eval).toArray c.w
    unfold Oper.wp
    have e1 : (execOp a.eval o).run P c.w = (callFunc f (xs.map a.eval).toArray).run P c.w := by
      simp [execOp, ho, resolve, Act.eval, Deferred.ofValue, invoke]
    rw [e1, hx, Oper.upon_enter]
    refine (hv.beside (ha.args hf) hs).mono fun e w' ⟨v, F', r, H, e2, hle, hsame, hp, hs', hR⟩ => ?_
    subst e2
    rw [hd]
    exact ⟨.inr hsame, RD.le (c' := ⟨F', c.U, w'⟩) hle ((h r H hR).run ⟨F', c.U, w'⟩ _ ((hf.le hle).put (Nat.blt_eq.mp hn) hp) hs')⟩

/-- a call by a contract over owned memory, which may write it -/
theorem RO.call {d : Nat} {f : FuncId} {xs : List Operand} {ts : Array TypeId} {ps : List VP} {R : VP → List HP → Prop} (i : Nat) (l' : Array Bool) (hi : ops[i]? = some o) (hl : listed.setIfInBounds i true = l') (hW : W i = true)
    (hw : Wants n ops φ o true) (hd : o.dst = some d) (hn : Nat.blt d n = true) (ho : o.op = .call ⟨.value (.func f), xs.toArray, ts⟩) (he : Enters P f) (ha : Opds φ xs ps) (hv : Spec P f ps S R)
    (h : ∀ r S', R r S' → RD P n id ops W K m l' ((d, r) :: φ) S') : RO P n id ops W K m listed i φ S :=
  RO.alone i l' hi hl hw fun c a hf hs => by
    have hx := he (xs.map a.eval).toArray c.w
    unfold Oper.wp
    have e1 : (execOp a.eval o).run P c.w = (callFunc f (xs.map a.eval).toArray).run P c.w := by
      simp [execOp, ho, resolve, Act.eval, Deferred.ofValue, invoke]
    rw [e1, hx, Oper.upon_enter]
    refine (hv.run c _ (ha.args hf) hs).mono fun e w' ⟨v, F', r, S', e2, hle, hp, hs', hR⟩ => ?_
    subst e2
    rw [hd]
    exact ⟨.inl hW, RD.le (c' := ⟨F', c.U, w'⟩) hle ((h r S' hR).run ⟨F', c.U, w'⟩ _ ((hf.le hle).put (Nat.blt_eq.mp hn) hp) hs')⟩

/-- a call that leaves what was there as it was -/
theorem RO.callS {d : Nat} {f : FuncId} {xs : List Operand} {ts : Array TypeId} {ps : List VP} {R : VP → List HP → Prop} (i : Nat) (l' : Array Bool) (hi : ops[i]? = some o) (hl : listed.setIfInBounds i true = l')
    (hw : Wants n ops φ o true) (hd : o.dst = some d) (hn : Nat.blt d n = true) (ho : o.op = .call ⟨.value (.func f), xs.toArray, ts⟩) (he : Enters P f) (ha : Opds φ xs ps) (hv : SpecS P f ps S R)
    (h : ∀ r S', R r S' → RD P n id ops W K m l' ((d, r) :: φ) S') : RO P n id ops W K m listed i φ S :=
  RO.alone i l' hi hl hw fun c a hf hs => by
    have hx := he (xs.map a.eval).toArray c.w
    unfold Oper.wp
    have e1 : (execOp a.eval o).run P c.w = (callFunc f (xs.map a.eval).toArray).run P c.w := by
      simp [execOp, ho, resolve, Act.eval, Deferred.ofValue, invoke]
    rw [e1, hx, Oper.upon_enter]
    refine (hv.run c _ (ha.args hf) hs).mono fun e w' ⟨v, F', r, S', e2, hle, hsame, hp, hs', hR⟩ => ?_
    subst e2
    rw [hd]
    exact ⟨.inr hsame, RD.le (c' := ⟨F', c.U, w'⟩) hle ((h r S' hR).run ⟨F', c.U, w'⟩ _ ((hf.le hle).put (Nat.blt_eq.mp hn) hp) hs')⟩

/-- any rule on the run serves for an operation that comes up alone and may write -/
theorem RO.rh (i : Nat) (l' : Array Bool) (hi : ops[i]? = some o) (hl : listed.setIfInBounds i true = l') (hW : W i = true)
    (hw : Wants n ops φ o true) (h : RH P n ops o [] (fun φ' S' => RD P n id ops W K m l' φ' S') φ S) : RO P n id ops W K m listed i φ S :=
  RO.alone i l' hi hl hw fun c a hf hs => by
    have h1 := h.run c a ops.size (fun j => by simp) hf hs
    have hgo : ∀ a' w', wpOps P ops (Out n (fun e φ' S' => e = .normal ∧ RD P n id ops W K m l' φ' S') c) (List.range' ops.size 0) a' w' →
        (W i = true ∨ Same c.w w') ∧ wpAnyM P ops W (fun a' w' => ∃ F' φ' S', c.le ⟨F', c.U, w'⟩ ∧ FH ⟨F', c.U, w'⟩ n φ' a' ∧ SH ⟨F', c.U, w'⟩ S' ∧ K φ' S') m l' a' w' := by
      rintro a' w' ⟨F', φ', S', hle, h2, h3, _, h4⟩
      exact ⟨.inl hW, RD.le (c' := ⟨F', c.U, w'⟩) hle (h4.run ⟨F', c.U, w'⟩ a' h2 h3)⟩
    unfold Oper.wp at *
    generalize (execOp a.eval o).run P c.w = r at *
    cases r with
    | ok nx w' =>
      cases nx <;> simp only [Oper.upon] at h1 ⊢ <;>
        first
          | exact hgo _ _ h1
          | exact Calls.mono h1 (fun e w'' he => by
              cases e with
              | returned v => exact hgo _ _ he
              | panicked cc => obtain ⟨_, _, _, _, _, _, h0, _⟩ := he; cases h0
              | outgrown => obtain ⟨_, _, _, _, _, _, _, _, h0, _⟩ := he; cases h0)
          | exact Rows.mono h1 (fun _ _ he => hgo _ _ he)
    | halt x w' => cases x <;> simp only [Oper.upon] at h1 ⊢ <;> (obtain ⟨_, _, _, _, _, _, h0, _⟩ := h1; cases h0)

theorem RD.weaken {φ' : Slots} {S' : List HP} (h : Ent φ S φ' S') (hr : RD P n id ops W K m listed φ' S') : RD P n id ops W K m listed φ S := by
  refine ⟨fun c a hf hs => ?_⟩
  obtain ⟨F', hle, h1, h2⟩ := h c n a hf hs
  exact RD.le (c' := ⟨F', c.U, c.w⟩) hle (hr.run ⟨F', c.U, c.w⟩ a h1 h2)

theorem RD.split {i j d : Nat} {w b : Bool} (hi : ops[i]? = some o) (hg : o.guard = some (j, w)) (hj : (ops[j]?).bind (·.dst) = some d) (hv : φ.get d = some (vbool b))
    (ht : b = true → RD P n id ops W K m listed ((d, vbool true) :: φ) S) (he : b = false → RD P n id ops W K m listed ((d, vbool false) :: φ) S) : RD P n id ops W K m listed φ S := by
  cases b with
  | true => exact RD.weaken (Ent.dup hv) (ht rfl)
  | false => exact RD.weaken (Ent.dup hv) (he rfl)
theorem RD.splitD {i j d : Nat} {w : Bool} {p : Prop} [Decidable p] (hi : ops[i]? = some o) (hg : o.guard = some (j, w)) (hj : (ops[j]?).bind (·.dst) = some d) (hv : φ.get d = some (vbool (decide p)))
    (ht : p → RD P n id ops W K m listed ((d, vbool true) :: φ) S) (he : ¬ p → RD P n id ops W K m listed ((d, vbool false) :: φ) S) : RD P n id ops W K m listed φ S :=
  RD.split hi hg hj hv (fun h => ht (of_decide_eq_true h)) (fun h => he (of_decide_eq_false h))
theorem RD.splitND {i j d : Nat} {w : Bool} {p : Prop} [Decidable p] (hi : ops[i]? = some o) (hg : o.guard = some (j, w)) (hj : (ops[j]?).bind (·.dst) = some d) (hv : φ.get d = some (vbool (!decide p)))
    (ht : ¬ p → RD P n id ops W K m listed ((d, vbool true) :: φ) S) (he : p → RD P n id ops W K m listed ((d, vbool false) :: φ) S) : RD P n id ops W K m listed φ S :=
  RD.split hi hg hj hv (fun h => ht (by simpa using h)) (fun h => he (by simpa using h))
theorem RD.splitNB {i j d : Nat} {w b : Bool} (hi : ops[i]? = some o) (hg : o.guard = some (j, w)) (hj : (ops[j]?).bind (·.dst) = some d) (hv : φ.get d = some (vbool (!b)))
    (ht : b = false → RD P n id ops W K m listed ((d, vbool true) :: φ) S) (he : b = true → RD P n id ops W K m listed ((d, vbool false) :: φ) S) : RD P n id ops W K m listed φ S :=
  RD.split hi hg hj hv (fun h => ht (by simpa using h)) (fun h => he (by simpa using h))

/-- A REGION THAT DRAWS ITS ORDER -/
theorem Run.regionD {Q : Post} {lo : List Oper} (W : Nat → Bool) (hm : P.follows .mixedOrders = true) (h : RD P n id lo.toArray W (Q .normal) lo.length (Array.replicate lo.length false) φ S) : Run P n (.region id lo.toArray true) Q φ S := by
  refine ⟨fun c a hf hs => ?_⟩
  have hl : c.le ⟨c.F, c.U, { c.w with drawn := c.w.drawn + 1 }⟩ := ⟨fun _ h => h, rfl, fun _ _ => rfl, Nat.le_refl _, rfl, rfl, rfl⟩
  obtain ⟨fs, hs⟩ := hs
  have hs' : SH ⟨c.F, c.U, { c.w with drawn := c.w.drawn + 1 }⟩ S := ⟨fs, hs.all.keep hl.v fun _ _ => rfl, hs.nodup, hs.own, hs.fro, hs.dis⟩
  have h1 := RD.le hl (h.run ⟨c.F, c.U, { c.w with drawn := c.w.drawn + 1 }⟩ a (hf.le hl) hs')
  have h2 := wpAny_of_M _ _ _ _ h1
  refine wp_mono (wp_region_any hm (Q := fun e a w => e = .normal ∧ ∃ F' φ' S', c.le ⟨F', c.U, w⟩ ∧ FH ⟨F', c.U, w⟩ n φ' a ∧ SH ⟨F', c.U, w⟩ S' ∧ Q .normal φ' S') (by simpa using h2)) ?_
  rintro e a' w' ⟨rfl, F', φ', S', h1, h2, h3, h4⟩
  exact ⟨F', φ', S', h1, h2, h3, h4⟩
end
end Go.Proofs.Ytodlpdedldhebaa
