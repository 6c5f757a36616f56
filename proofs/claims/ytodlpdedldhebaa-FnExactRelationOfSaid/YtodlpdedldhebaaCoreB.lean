/- The operations of a region, one by one: the judgement RL; calls by contract. Proved for every program P; no conditions. -/
import Derived.Test.YtodlpdedldhebaaCoreA
namespace Go.Proofs.Ytodlpdedldhebaa
open Go
set_option linter.unusedVariables false

/-- the operations l that are left of the region ops, from the k-th on -/
structure RL (P : Program) (n : Nat) (ops : Array Oper) (l : List Oper) (K : Slots → List HP → Prop) (φ : Slots) (S : List HP) : Prop where
  run : ∀ c a k, (∀ j, l[j]? = ops[k + j]?) → FH c n φ a → SH c S →
    wpOps P ops (Out n (fun e φ' S' => e = .normal ∧ K φ' S') c) (List.range' k l.length) a c.w

/-- the same where the first of them is carried out whatever its guard -/
structure RH (P : Program) (n : Nat) (ops : Array Oper) (o : Oper) (l : List Oper) (K : Slots → List HP → Prop) (φ : Slots) (S : List HP) : Prop where
  run : ∀ c a k, (∀ j, l[j]? = ops[k + j]?) → FH c n φ a → SH c S →
    o.wp P a c.w (wpOps P ops (Out n (fun e φ' S' => e = .normal ∧ K φ' S') c) (List.range' k l.length)) (Out n (fun e φ' S' => e = .normal ∧ K φ' S') c)

theorem getD_set_self (xs : Array Value) (t : Nat) (v : Value) : (xs.setIfInBounds t v).getD t v = v := by
  by_cases h : t < xs.size <;> simp [Array.getD, h]

theorem wpOps_mono {P : Program} {ops : Array Oper} {Q Q' : Exit → Act → World → Prop} (hq : ∀ e a w, Q e a w → Q' e a w) :
    ∀ (l : List Nat) (a : Act) (w : World), wpOps P ops Q l a w → wpOps P ops Q' l a w := by
  intro l
  induction l with
  | nil => exact fun a w h => hq _ _ _ h
  | cons i r ih =>
    intro a w h
    simp only [wpOps] at h ⊢
    cases ho : ops[i]? with
    | none => simp only [ho] at h ⊢; exact ih a w h
    | some o =>
      simp only [ho] at h ⊢
      split
      · rename_i hw
        simp only [hw, if_true] at h
        refine h.imp (fun h => ?_) (fun ⟨h1, a', w', h2⟩ => ⟨h1, a', w', hq _ _ _ h2⟩)
        unfold Oper.wp at h ⊢
        generalize (execOp a.eval o).run P w = x at h ⊢
        cases x with
        | ok nx w' =>
          cases nx <;> simp only [Oper.upon] at h ⊢ <;>
            first
              | exact ih _ _ h
              | exact Calls.mono h (fun e w'' he => by cases e <;> first | exact ih _ _ he | exact hq _ _ _ he | exact (let ⟨a', w', h2⟩ := he; ⟨a', w', hq _ _ _ h2⟩))
              | exact Rows.mono h (fun _ _ he => ih _ _ he)
        | halt x w' => cases x <;> simp only [Oper.upon] at h ⊢ <;> exact hq _ _ _ h
      · rename_i hw
        simp only [hw] at h
        exact ih _ _ h

section
variable {P : Program} {n : Nat} {ops : Array Oper} {o : Oper} {l : List Oper} {K : Slots → List HP → Prop} {φ : Slots} {S : List HP}

theorem Run.region {Q : Post} {id : Nat} {lo : List Oper} (h : RL P n lo.toArray lo (Q .normal) φ S) : Run P n (.region id lo.toArray false) Q φ S := by
  refine ⟨fun c a hf hs => ?_⟩
  refine wp_region ?_
  have := h.run c a 0 (by intro j; simp) hf hs
  have e : List.range lo.toArray.size = List.range' 0 lo.length := by simp [List.range_eq_range']
  rw [e]
  exact wpOps_mono (fun e a w ⟨F', φ', S', hl, hf, hs, he, hk⟩ => ⟨F', φ', S', hl, hf, hs, by subst he; exact hk⟩) _ _ _ this

theorem RL.done (h : K φ S) : RL P n ops [] K φ S := ⟨fun c a k _ hf hs => ⟨c.F, φ, S, .refl c, hf, hs, rfl, h⟩⟩

theorem range'_shift (k m : Nat) : List.range' k (m + 1) = k :: List.range' (k + 1) m := rfl

theorem RL.tail {c : Ctx} {k : Nat} (h : ∀ j, (o :: l)[j]? = ops[k + j]?) : ∀ j, l[j]? = ops[k + 1 + j]? := fun j => by
  have := h (j + 1); simpa [Nat.add_assoc, Nat.add_comm 1 j] using this

theorem RL.wanted (hg : o.guard = none) (h : RH P n ops o l K φ S) : RL P n ops (o :: l) K φ S := by
  refine ⟨fun c a k hl hf hs => ?_⟩
  have h0 : ops[k]? = some o := by simpa using (hl 0).symm
  simp only [List.length_cons, range'_shift, wpOps, h0]
  rw [if_pos (by simp [Region.wanted, hg])]
  exact .inl (h.run c a (k + 1) (RL.tail (c := c) hl) hf hs)

theorem yielded_of {c : Ctx} {a : Act} {j d : Nat} {v : Value} (hf : FH c n φ a) (hj : (ops[j]?).bind (·.dst) = some d) (hd : d < n) (hv : φ.get d = some (vlit v)) :
    yielded ops a.tmps j = match v with | .bool b => some b | _ => none := by
  have hs : a.tmps.getD d undef = v := hf.slot d _ hv
  have hlt : d < a.tmps.size := hf.size ▸ hd
  have : a.tmps[d]? = some v := by
    rw [Array.getElem?_eq_getElem hlt]; simp only [Array.getD, hlt, dite_true] at hs; exact congrArg some hs
  unfold yielded
  rw [hj, Option.bind_some, this]
  cases v <;> rfl

theorem RL.weaken {φ' : Slots} {S' : List HP} (h : Ent φ S φ' S') (hr : RL P n ops l K φ' S') : RL P n ops l K φ S := by
  refine ⟨fun c a k hl hf hs => ?_⟩
  obtain ⟨F', hle, h1, h2⟩ := h c n a hf hs
  exact wpOps_mono (fun _ _ _ => Out.le hle) _ _ _ (hr.run ⟨F', c.U, c.w⟩ a k hl h1 h2)

/-- a guarded operation whose guard is a bool -/
theorem RL.guard {j d : Nat} {want b : Bool} (hg : o.guard = some (j, want)) (hj : (ops[j]?).bind (·.dst) = some d) (hd : Nat.blt d n = true) (hv : φ.get d = some (vbool b))
    (ht : b = want → RH P n ops o l K ((d, vbool want) :: φ) S) (he : b = (!want) → RL P n ops l K (match o.dst with | some t => (t, vlit undef) :: (d, vbool (!want)) :: φ | none => (d, vbool (!want)) :: φ) S) :
    RL P n ops (o :: l) K φ S := by
  refine ⟨fun c a k hl hf hs => ?_⟩
  have h0 : ops[k]? = some o := by simpa using (hl 0).symm
  have hy := yielded_of hf hj (Nat.blt_eq.mp hd) hv
  have again : FH c n ((d, vbool b) :: φ) a := ⟨hf.size, hf.defers, fun t p ht => by
    simp only [Slots.get] at ht
    cases hbt : Nat.beq d t with
    | true => obtain rfl := Nat.eq_of_beq_eq_true hbt; simp only [hbt, cond_true, Option.some.injEq] at ht; subst ht; exact hf.slot d _ hv
    | false => simp only [hbt, cond_false] at ht; exact hf.slot t p ht⟩
  simp only [List.length_cons, range'_shift, wpOps, h0]
  by_cases hb : b = want
  · rw [if_pos (by simp [Region.wanted, hg, hy, hb])]
    exact .inl ((ht hb).run c a (k + 1) (RL.tail (c := c) hl) (hb ▸ again) hs)
  · have hb' : b = (!want) := by cases b <;> cases want <;> simp_all
    rw [if_neg (by simp [Region.wanted, hg, hy, hb])]
    refine (he hb').run c _ (k + 1) (RL.tail (c := c) hl) ?_ hs
    rw [hb'] at again
    cases hd' : o.dst with
    | none => exact again
    | some t =>
      have hf := again
      refine ⟨by simpa [Act.put] using hf.size, hf.defers, fun t' p hp => ?_⟩
      simp only [Slots.get] at hp
      cases hbt : Nat.beq t t' with
      | true =>
        obtain rfl := Nat.eq_of_beq_eq_true hbt
        simp only [hbt, cond_true, Option.some.injEq] at hp; subst hp
        exact getD_set_self _ _ _
      | false =>
        simp only [hbt, cond_false] at hp
        have := hf.slot t' p hp
        have hne : t ≠ t' := fun e => by subst e; simp [Nat.beq_refl] at hbt
        simpa [Act.put, Array.getD_eq_getD_getElem?, Array.getElem?_setIfInBounds_ne hne] using this

/-- a value that is not the one that a guard wants -/
def isNot (want : Bool) : Value → Bool
  | .bool b => b != want
  | _ => true

/-- a guarded operation whose guard says no -/
theorem RL.guardNo {j d : Nat} {want : Bool} {v : Value} (hg : o.guard = some (j, want)) (hj : (ops[j]?).bind (·.dst) = some d) (hd : Nat.blt d n = true) (hv : φ.get d = some (vlit v)) (hno : isNot want v = true)
    (he : RL P n ops l K (match o.dst with | some t => (t, vlit undef) :: φ | none => φ) S) :
    RL P n ops (o :: l) K φ S := by
  refine ⟨fun c a k hl hf hs => ?_⟩
  have h0 : ops[k]? = some o := by simpa using (hl 0).symm
  have hy := yielded_of hf hj (Nat.blt_eq.mp hd) hv
  simp only [List.length_cons, range'_shift, wpOps, h0]
  rw [if_neg (by cases v <;> simp_all [Region.wanted, isNot])]
  refine he.run c _ (k + 1) (RL.tail (c := c) hl) ?_ hs
  cases hd' : o.dst with
  | none => exact hf
  | some t =>
    refine ⟨by simpa [Act.put] using hf.size, hf.defers, fun t' p hp => ?_⟩
    simp only [Slots.get] at hp
    cases hbt : Nat.beq t t' with
    | true =>
      obtain rfl := Nat.eq_of_beq_eq_true hbt
      simp only [hbt, cond_true, Option.some.injEq] at hp; subst hp
      exact getD_set_self _ _ _
    | false =>
      simp only [hbt, cond_false] at hp
      have := hf.slot t' p hp
      have hne : t ≠ t' := fun e => by subst e; simp [Nat.beq_refl] at hbt
      simpa [Act.put, Array.getD_eq_getD_getElem?, Array.getElem?_setIfInBounds_ne hne] using this

theorem RL.guardYes {j d : Nat} {want : Bool} (hg : o.guard = some (j, want)) (hj : (ops[j]?).bind (·.dst) = some d) (hd : Nat.blt d n = true) (hv : φ.get d = some (vbool want))
    (ht : RH P n ops o l K φ S) : RL P n ops (o :: l) K φ S := by
  refine ⟨fun c a k hl hf hs => ?_⟩
  have h0 : ops[k]? = some o := by simpa using (hl 0).symm
  have hy := yielded_of hf hj (Nat.blt_eq.mp hd) hv
  simp only [List.length_cons, range'_shift, wpOps, h0]
  rw [if_pos (by simp [Region.wanted, hg, hy])]
  exact .inl (ht.run c a (k + 1) (RL.tail (c := c) hl) hf hs)

/-- a value put into a slot -/
theorem FH.put {c : Ctx} {a : Act} {d : Nat} {p : VP} {v : Value} (hf : FH c n φ a) (hd : d < n) (hv : p.p c v) : FH c n ((d, p) :: φ) (a.put (some d) v) := by
  refine ⟨by simpa [Act.put] using hf.size, hf.defers, fun t' q hq => ?_⟩
  simp only [Slots.get] at hq
  cases hbt : Nat.beq d t' with
  | true =>
    obtain rfl := Nat.eq_of_beq_eq_true hbt
    simp only [hbt, cond_true, Option.some.injEq] at hq; subst hq
    have hlt : d < a.tmps.size := hf.size ▸ hd
    have : (a.put (some d) v).tmps.getD d undef = v := by
      show (a.tmps.setIfInBounds d v).getD d undef = v
      simp only [Array.getD_eq_getD_getElem?, Array.getElem?_setIfInBounds]
      simp [hlt]
    rw [this]; exact hv
  | false =>
    simp only [hbt, cond_false] at hq
    have := hf.slot t' q hq
    have hne : d ≠ t' := fun e => by subst e; simp [Nat.beq_refl] at hbt
    simpa [Act.put, Array.getD_eq_getD_getElem?, Array.getElem?_setIfInBounds_ne hne] using this

/-- the blocks of w are as they were -/
structure Same (w w' : World) : Prop where
  heap : ∀ b, b < w.heap.size → w'.heap[b]? = w.heap[b]?
  size : w.heap.size ≤ w'.heap.size
theorem Same.refl (w : World) : Same w w := ⟨fun _ _ => rfl, Nat.le_refl _⟩
theorem Same.trans {a b c : World} (h : Same a b) (k : Same b c) : Same a c :=
  ⟨fun x hx => (k.heap x (Nat.lt_of_lt_of_le hx h.size)).trans (h.heap x hx), Nat.le_trans h.size k.size⟩
theorem Same.cell {w w' : World} (h : Same w w') {a : Addr} {v : Value} (hc : w.cell? a = some v) : w'.cell? a = some v := by
  have hlt : a.block < w.heap.size := by
    apply Classical.byContradiction
    intro hn
    have : w.heap[a.block]? = none := by simp; omega
    simp [World.cell?, this] at hc
  simpa [World.cell?, h.heap _ hlt] using hc

/-- an operation that yields a value and leaves the world alone; it yields the same value if there are new blocks besides -/
structure VOp (P : Program) (n : Nat) (φ : Slots) (S : List HP) (o : Oper) (r : VP) : Prop where
  run : ∀ c a, FH c n φ a → SH c S → ∃ v, (∀ w', Same c.w w' → (execOp a.eval o).run P w' = .ok (.value v) w') ∧ r.p c v

theorem RH.value {d : Nat} {r : VP} (hd : o.dst = some d) (hn : Nat.blt d n = true) (hv : VOp P n φ S o r) (h : RL P n ops l K ((d, r) :: φ) S) : RH P n ops o l K φ S := by
    refine ⟨fun c a k hl hf hs => ?_⟩
    obtain ⟨v, he, hr⟩ := hv.run c a hf hs
    unfold Oper.wp
    rw [he c.w (.refl _), Oper.upon_value, hd]
    exact h.run c _ k hl (hf.put (Nat.blt_eq.mp hn) hr) hs

/-- an operation that may make memory or write owned memory, and yields a value -/
structure EOp (P : Program) (n : Nat) (φ : Slots) (S : List HP) (o : Oper) (R : VP → List HP → Prop) : Prop where
  run : ∀ c a, FH c n φ a → SH c S → ∃ v w' F' r S', (execOp a.eval o).run P c.w = .ok (.value v) w' ∧ c.le ⟨F', c.U, w'⟩ ∧ r.p ⟨F', c.U, w'⟩ v ∧ SH ⟨F', c.U, w'⟩ S' ∧ R r S'

theorem RL.le {c c' : Ctx} {k : Nat} {a : Act} (hl : c.le c') (h : wpOps P ops (Out n (fun e φ' S' => e = .normal ∧ K φ' S') c') (List.range' k l.length) a c'.w) :
    wpOps P ops (Out n (fun e φ' S' => e = .normal ∧ K φ' S') c) (List.range' k l.length) a c'.w :=
  wpOps_mono (fun _ _ _ => Out.le hl) _ _ _ h

theorem RH.eff {d : Nat} {R : VP → List HP → Prop} (hd : o.dst = some d) (hn : Nat.blt d n = true) (hv : EOp P n φ S o R) (h : ∀ r S', R r S' → RL P n ops l K ((d, r) :: φ) S') :
    RH P n ops o l K φ S := by
  refine ⟨fun c a k hl hf hs => ?_⟩
  obtain ⟨v, w', F', r, S', he, hle, hr, hs', hR⟩ := hv.run c a hf hs
  unfold Oper.wp
  rw [he, Oper.upon_value, hd]
  exact RL.le (c' := ⟨F', c.U, w'⟩) hle ((h r S' hR).run ⟨F', c.U, w'⟩ _ k hl ((hf.le hle).put (Nat.blt_eq.mp hn) hr) hs')

/-- an operation that writes owned memory and yields nothing -/
structure UOp (P : Program) (n : Nat) (φ : Slots) (S : List HP) (o : Oper) (R : List HP → Prop) : Prop where
  run : ∀ c a, FH c n φ a → SH c S → ∃ w' F' S', (execOp a.eval o).run P c.w = .ok .skip w' ∧ c.le ⟨F', c.U, w'⟩ ∧ SH ⟨F', c.U, w'⟩ S' ∧ R S'

theorem RH.unit {R : List HP → Prop} (hd : o.dst = none) (hv : UOp P n φ S o R) (h : ∀ S', R S' → RL P n ops l K φ S') : RH P n ops o l K φ S := by
  refine ⟨fun c a k hl hf hs => ?_⟩
  obtain ⟨w', F', S', he, hle, hs', hR⟩ := hv.run c a hf hs
  unfold Oper.wp
  rw [he, Oper.upon_skip, hd]
  exact RL.le (c' := ⟨F', c.U, w'⟩) hle ((h S' hR).run ⟨F', c.U, w'⟩ _ k hl (hf.le hle) hs')

/-- the arguments of a call -/
inductive Args (c : Ctx) : List VP → List Value → Prop
  | nil : Args c [] []
  | cons {p : VP} {v : Value} {ps : List VP} {vs : List Value} : p.p c v → Args c ps vs → Args c (p :: ps) (v :: vs)

/-- A CONTRACT: called with values that meet ps, in a world that holds S, the function returns a value and a state with R -/
structure Spec (P : Program) (f : FuncId) (ps : List VP) (S : List HP) (R : VP → List HP → Prop) : Prop where
  run : ∀ c vs, Args c ps vs → SH c S → Calls P f vs.toArray c.w fun e w' =>
    ∃ v F' r S', e = .returned v ∧ c.le ⟨F', c.U, w'⟩ ∧ r.p ⟨F', c.U, w'⟩ v ∧ SH ⟨F', c.U, w'⟩ S' ∧ R r S'

theorem Spec.mono {f : FuncId} {ps : List VP} {R R' : VP → List HP → Prop} (h : Spec P f ps S R) (hr : ∀ r S', R r S' → R' r S') : Spec P f ps S R' :=
  ⟨fun c vs ha hs => (h.run c vs ha hs).mono fun _ _ ⟨v, F', r, S', h1, h2, h3, h4, h5⟩ => ⟨v, F', r, S', h1, h2, h3, h4, hr _ _ h5⟩⟩

inductive Opds (φ : Slots) : List Operand → List VP → Prop
  | nil : Opds φ [] []
  | cons {x : Operand} {p : VP} {xs : List Operand} {ps : List VP} : opd φ x = some p → Opds φ xs ps → Opds φ (x :: xs) (p :: ps)

theorem Opds.args {c : Ctx} {a : Act} (hf : FH c n φ a) {xs : List Operand} {ps : List VP} (h : Opds φ xs ps) : Args c ps (xs.map a.eval) := by
  induction h with
  | nil => exact .nil
  | cons hx _ ih => exact .cons (hf.opd hx) ih

/-- that the program enters f when f is called -/
def Enters (P : Program) (f : FuncId) : Prop := ∀ args w, (callFunc f args).run P w = .ok (.enter f args) w

/-- a call of a named function -/
theorem RH.call {d : Nat} {f : FuncId} {xs : List Operand} {ts : Array TypeId} {ps : List VP} {R : VP → List HP → Prop} (ho : o.op = .call ⟨.value (.func f), xs.toArray, ts⟩) (hd : o.dst = some d)
    (hn : Nat.blt d n = true) (he : Enters P f) (ha : Opds φ xs ps) (hv : Spec P f ps S R) (h : ∀ r S', R r S' → RL P n ops l K ((d, r) :: φ) S') :
    RH P n ops o l K φ S := by
  refine ⟨fun c a k hl hf hs => ?_⟩
  have hx := he (xs.map a.eval).toArray c.w
  unfold Oper.wp
  have e1 : (execOp a.eval o).run P c.w = (callFunc f (xs.map a.eval).toArray).run P c.w := by
    simp [execOp, ho, resolve, Act.eval, Deferred.ofValue, invoke]
  rw [e1, hx, Oper.upon_enter]
  refine (hv.run c (xs.map a.eval) (ha.args hf) hs).mono fun e w' ⟨v, F', r, S', e2, hle, hr, hs', hR⟩ => ?_
  subst e2
  rw [hd]
  exact RL.le (c' := ⟨F', c.U, w'⟩) hle ((h r S' hR).run ⟨F', c.U, w'⟩ _ k hl ((hf.le hle).put (Nat.blt_eq.mp hn) hr) hs')

end

/-- keep these slots, forget all others -/
inductive Keep (φ : Slots) : List Nat → Slots → Prop
  | nil : Keep φ [] []
  | cons {t : Nat} {p : VP} {ts : List Nat} {ψ : Slots} : φ.get t = some p → Keep φ ts ψ → Keep φ (t :: ts) ((t, p) :: ψ)

theorem Keep.sub {φ ψ : Slots} {ts : List Nat} (h : Keep φ ts ψ) : ∀ t p, ψ.get t = some p → φ.get t = some p := by
  induction h with
  | nil => intro t p h; cases h
  | @cons t' p' ts ψ ht _ ih =>
    intro t p h
    simp only [Slots.get] at h
    cases hb : Nat.beq t' t with
    | true => obtain rfl := Nat.eq_of_beq_eq_true hb; simp only [hb, cond_true, Option.some.injEq] at h; subst h; exact ht
    | false => simp only [hb, cond_false] at h; exact ih t p h

theorem Ent.keep {φ ψ : Slots} {S : List HP} {ts : List Nat} (h : Keep φ ts ψ) : Ent φ S ψ S := fun c n a hf hs => ⟨c.F, .refl c, ⟨hf.size, hf.defers, fun t p ht => hf.slot t p (h.sub t p ht)⟩, hs⟩

theorem Run.keep {P : Program} {n : Nat} {x : Code} {Q : Post} {φ ψ : Slots} {S : List HP} (ts : List Nat) (h : Keep φ ts ψ) (hr : Run P n x Q ψ S) : Run P n x Q φ S :=
  Run.weaken (Ent.keep h) hr

/-- the results of a function -/
inductive Res (P : Program) (φ : Slots) (S : List HP) : List ResultVar → List VP → Prop
  | nil : Res P φ S [] []
  | tmp {t : Nat} {p : VP} {rs : List ResultVar} {ps : List VP} : φ.get t = some p → Res P φ S rs ps → Res P φ S (.tmp t :: rs) (p :: ps)
  | cell {a : Nat} {ty : TypeId} {q p : VP} {rs : List ResultVar} {ps : List VP} : φ.get a = some q →
      (∀ c v, q.p c v → SH c S → ∃ u, (do loadVar ty (← asAddr v)).run P c.w = .ok u c.w ∧ p.p c u) → Res P φ S rs ps → Res P φ S (.cell a ty :: rs) (p :: ps)

inductive VPs (c : Ctx) : List VP → List Value → Prop
  | nil : VPs c [] []
  | cons {p : VP} {v : Value} {ps : List VP} {vs : List Value} : p.p c v → VPs c ps vs → VPs c (p :: ps) (v :: vs)

theorem VPs.mono {c c' : Ctx} (h : c.leV c') {ps : List VP} {vs : List Value} (k : VPs c ps vs) : VPs c' ps vs := by
  induction k with
  | nil => exact .nil
  | cons hp _ ih => exact .cons (VP.mono _ h hp) ih

theorem VPs.length {c : Ctx} {ps : List VP} {vs : List Value} (k : VPs c ps vs) : ps.length = vs.length := by
  induction k with
  | nil => rfl
  | cons _ _ ih => simp [ih]

/-- a tuple of results -/
def vtup (ps : List VP) : VP := ⟨fun c v => ∃ vs, v = .tuple vs.toArray ∧ VPs c ps vs, fun {_ _ _} h k => by obtain ⟨vs, h1, h2⟩ := k; exact ⟨vs, h1, h2.mono h⟩⟩

/-- one result is itself, several are a tuple -/
def vres : List VP → VP
  | [p] => p
  | ps => vtup ps

def resV (tmps : Array Value) : ResultVar → Sem Value
  | .tmp t => pure (tmps.getD t undef)
  | .cell a t => do loadVar t (← asAddr (tmps.getD a undef))

theorem results_eq (fn : Func) (tmps : Array Value) : results fn tmps = (do let vs ← fn.results.mapM (resV tmps); pure (if h : vs.size = 1 then vs[0] else .tuple vs)) := by
  unfold results
  congr 1

theorem Res.run {P : Program} {c : Ctx} {n : Nat} {φ : Slots} {S : List HP} {a : Act} (hf : FH c n φ a) (hs : SH c S) {rs : List ResultVar} {ps : List VP} (h : Res P φ S rs ps) :
    ∃ vs, VPs c ps vs ∧ (rs.mapM (resV a.tmps)).run P c.w = .ok vs c.w := by
  induction h with
  | nil => exact ⟨[], .nil, rfl⟩
  | @tmp t p rs ps ht _ ih =>
    obtain ⟨vs, h1, h2⟩ := ih
    refine ⟨_ :: vs, .cons (hf.slot t p ht) h1, ?_⟩
    rw [List.mapM_cons]
    show Sem.run P ((resV a.tmps (.tmp t)).bind fun x => (List.mapM (resV a.tmps) rs).bind fun xs => Sem.pure (x :: xs)) c.w = _
    rw [Sem.run_bind']
    simp only [resV]
    show Sem.run P ((List.mapM (resV a.tmps) rs).bind fun xs => Sem.pure (_ :: xs)) c.w = _
    rw [Sem.run_bind', h2]; rfl
  | @cell x ty q p rs ps ht hl _ ih =>
    obtain ⟨vs, h1, h2⟩ := ih
    obtain ⟨u, hu, hp⟩ := hl c _ (hf.slot x q ht) hs
    refine ⟨u :: vs, .cons hp h1, ?_⟩
    rw [List.mapM_cons]
    show Sem.run P ((resV a.tmps (.cell x ty)).bind fun x => (List.mapM (resV a.tmps) rs).bind fun xs => Sem.pure (x :: xs)) c.w = _
    rw [Sem.run_bind']
    have e : (resV a.tmps (.cell x ty)).run P c.w = .ok u c.w := hu
    rw [e]
    show Sem.run P ((List.mapM (resV a.tmps) rs).bind fun xs => Sem.pure (_ :: xs)) c.w = _
    rw [Sem.run_bind', h2]; rfl

theorem Args.slot {c : Ctx} {ps : List VP} {vs : List Value} (h : Args c ps vs) : ∀ (i : Nat) (p : VP), ps[i]? = some p → ∃ v, vs[i]? = some v ∧ p.p c v := by
  induction h with
  | nil => intro i p h; simp at h
  | cons hp _ ih =>
    intro i p h
    cases i with
    | zero => simp only [List.getElem?_cons_zero, Option.some.injEq] at h; subst h; exact ⟨_, rfl, hp⟩
    | succ i => exact ih i p (by simpa using h)

theorem Args.length {c : Ctx} {ps : List VP} {vs : List Value} (k : Args c ps vs) : ps.length = vs.length := by
  induction k with
  | nil => rfl
  | cons _ _ ih => simp [ih]

/-- the slots of the parameters -/
def entry : Nat → List VP → Slots
  | _, [] => []
  | k, p :: ps => (k, p) :: entry (k + 1) ps

theorem entry_get : ∀ (ps : List VP) (k t : Nat) (p : VP), (entry k ps).get t = some p → k ≤ t ∧ ps[t - k]? = some p
  | [], _, _, _, h => by cases h
  | q :: ps, k, t, p, h => by
    simp only [entry, Slots.get] at h
    cases hb : Nat.beq k t with
    | true => obtain rfl := Nat.eq_of_beq_eq_true hb; simp only [hb, cond_true, Option.some.injEq] at h; subst h; simp
    | false =>
      simp only [hb, cond_false] at h
      obtain ⟨h1, h2⟩ := entry_get ps (k + 1) t p h
      have e : t - k = (t - (k + 1)) + 1 := by omega
      rw [e]; exact ⟨by omega, by simpa using h2⟩

/-- ENTERING A FUNCTION -/
theorem Spec.of_run {P : Program} {f : FuncId} {fn : Func} {x : Code} {ps : List VP} {S : List HP} {R : VP → List HP → Prop} {rv : List ResultVar} {n : Nat} (hf : P.funcs[f]? = some fn) (hb : fn.body = some x)
    (hrv : fn.results = rv.toArray) (hn : fn.ntmps = n) (hle : Nat.ble ps.length n = true)
    (h : Run P n x (fun e φ' S' => (e = .ret ∨ e = .normal) ∧ ∃ rs, Res P φ' S' rv rs ∧ R (vres rs) S') (entry 0 ps) S) :
    Spec P f ps S R := by
  refine ⟨fun c vs ha hs => ?_⟩
  subst hn
  have hlen := ha.length
  have hle' : ps.length ≤ fn.ntmps := Nat.le_of_ble_eq_true hle
  refine calls_of_wp hf hb (wp_mono (h.run c _ ?_ hs) ?_)
  · refine ⟨by simp; omega, rfl, fun t p ht => ?_⟩
    obtain ⟨_, h2⟩ := entry_get ps 0 t p ht
    obtain ⟨v, h3, h4⟩ := ha.slot _ _ h2
    simp only [Nat.sub_zero] at h3
    have hlt : t < vs.length := by rw [List.getElem?_eq_some_iff] at h3; exact h3.1
    have : (vs.toArray ++ Array.replicate (fn.ntmps - vs.toArray.size) undef).getD t undef = v := by
      rw [Array.getD_eq_getD_getElem?, Array.getElem?_append_left (by simpa using hlt)]
      simp [h3]
    rw [this]; exact h4
  · rintro e a w ⟨F', φ', S', hle, hf', hs', he, rs, hres, hR⟩
    obtain ⟨us, hu1, hu2⟩ := hres.run hf' hs'
    have hrun : (results fn a.tmps).run P w = .ok (if h : us.length = 1 then us[0] else .tuple us.toArray) w := by
      rw [results_eq, hrv, List.mapM_toArray]
      simp only [Sem.run_bind, Sem.run_map, hu2, Result.andThen_ok, Sem.run_pure]
      simp
    have hv : (vres rs).p ⟨F', c.U, w⟩ (if h : us.length = 1 then us[0] else .tuple us.toArray) := by
      have hl := hu1.length
      cases hu1 with
      | nil => exact ⟨[], rfl, .nil⟩
      | @cons p v ps vs hp hr =>
        cases hr with
        | nil => exact hp
        | @cons p' v' ps' vs' hp' hr' => exact ⟨v :: v' :: vs', by simp, .cons hp (.cons hp' hr')⟩
    have fin : bodyPost P fn (fun e w' => ∃ v F' r S', e = .returned v ∧ c.le ⟨F', c.U, w'⟩ ∧ r.p ⟨F', c.U, w'⟩ v ∧ SH ⟨F', c.U, w'⟩ S' ∧ R r S') .ret a w :=
      ⟨hf'.defers, _, hrun, _, F', vres rs, S', rfl, hle, hv, hs', hR⟩
    rcases he with rfl | rfl
    · exact fin
    · exact fin
end Go.Proofs.Ytodlpdedldhebaa
