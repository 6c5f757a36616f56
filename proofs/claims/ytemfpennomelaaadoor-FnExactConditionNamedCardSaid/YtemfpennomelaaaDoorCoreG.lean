/- A small program logic over the kit's wp: a symbolic state (assertions on the frame's slots, owned heap chunks, frozen memory). Proved for every program P; no conditions. -/
import Derived.Calls
import Derived.Orders
import Derived.WalkKit
namespace Go.Proofs.YtemfpennomelaaaDoor
open Go
set_option linter.unusedVariables false

/-- frozen memory (blocks that are never written again), untouched memory (blocks that are somebody else's) and the world -/
structure Ctx where
  F : Nat → Prop
  U : Nat → Prop
  w : World

structure Ctx.le (c c' : Ctx) : Prop where
  fr : ∀ b, c.F b → c'.F b
  un : c'.U = c.U
  heap : ∀ b, c.F b ∨ c.U b → c'.w.heap[b]? = c.w.heap[b]?
  size : c.w.heap.size ≤ c'.w.heap.size
  os : c'.w.os = c.w.os
  tape : c'.w.tape = c.w.tape
  output : c'.w.output = c.w.output

theorem Ctx.le.refl (c : Ctx) : c.le c := ⟨fun _ h => h, rfl, fun _ _ => rfl, Nat.le_refl _, rfl, rfl, rfl⟩
theorem Ctx.le.trans {a b c : Ctx} (h : a.le b) (k : b.le c) : a.le c :=
  ⟨fun x hx => k.fr x (h.fr x hx), k.un.trans h.un, fun x hx => (k.heap x (hx.imp (h.fr x) (fun u => by rw [h.un]; exact u))).trans (h.heap x hx), Nat.le_trans h.size k.size,
   k.os.trans h.os, k.tape.trans h.tape, k.output.trans h.output⟩

/-- what an assertion that lasts needs -/
structure Ctx.leV (c c' : Ctx) : Prop where
  fr : ∀ b, c.F b → c'.F b
  heap : ∀ b, c.F b → c'.w.heap[b]? = c.w.heap[b]?
theorem Ctx.le.v {c c' : Ctx} (h : c.le c') : c.leV c' := ⟨h.fr, fun b hb => h.heap b (.inl hb)⟩

/-- an assertion on a value that lasts -/
structure VP where
  p : Ctx → Value → Prop
  mono : ∀ {c c' : Ctx} {v : Value}, c.leV c' → p c v → p c' v

/-- an assertion on owned blocks: it looks at the blocks of its footprint and at frozen memory alone -/
structure HP where
  p : Ctx → List Nat → Prop
  mono : ∀ {c c' : Ctx} {fs : List Nat}, c.leV c' → (∀ b ∈ fs, c'.w.heap[b]? = c.w.heap[b]?) → p c fs → p c' fs

def vlit (v : Value) : VP := ⟨fun _ u => u = v, fun _ h => h⟩
def vany : VP := ⟨fun _ _ => True, fun _ h => h⟩
@[reducible] def vint (n : Int) : VP := vlit (.int .i64 n)
@[reducible] def vbool (b : Bool) : VP := vlit (.bool b)

abbrev Slots := List (Nat × VP)
def Slots.get : Slots → Nat → Option VP
  | [], _ => none
  | (k, p) :: r, t => cond (Nat.beq k t) (some p) (Slots.get r t)

structure FH (c : Ctx) (n : Nat) (φ : Slots) (a : Act) : Prop where
  size : a.tmps.size = n
  defers : a.defers = []
  slot : ∀ t p, φ.get t = some p → p.p c (a.tmps.getD t undef)

/-- the owned chunks stand side by side -/
inductive All (c : Ctx) : List HP → List (List Nat) → Prop
  | nil : All c [] []
  | cons {h : HP} {f : List Nat} {S : List HP} {fs : List (List Nat)} : h.p c f → All c S fs → All c (h :: S) (f :: fs)

structure SHf (c : Ctx) (S : List HP) (fs : List (List Nat)) : Prop where
  all : All c S fs
  nodup : fs.flatten.Nodup
  own : ∀ b ∈ fs.flatten, ¬ c.F b ∧ ¬ c.U b ∧ b < c.w.heap.size
  fro : ∀ b, c.F b ∨ c.U b → b < c.w.heap.size
  dis : ∀ b, c.F b → ¬ c.U b

def SH (c : Ctx) (S : List HP) : Prop := ∃ fs, SHf c S fs

theorem FH.le {c c' : Ctx} {n : Nat} {φ : Slots} {a : Act} (h : FH c n φ a) (hl : c.le c') : FH c' n φ a :=
  ⟨h.size, h.defers, fun t p ht => p.mono hl.v (h.slot t p ht)⟩

theorem All.keep {c c' : Ctx} (hl : c.leV c') {S : List HP} {fs : List (List Nat)} (h : All c S fs)
    (hk : ∀ b ∈ fs.flatten, c'.w.heap[b]? = c.w.heap[b]?) : All c' S fs := by
  induction h with
  | nil => exact .nil
  | @cons h f S fs hp _ ih =>
    refine .cons (h.mono hl (fun b hb => hk b (by simp [hb])) hp) (ih fun b hb => hk b ?_)
    simp only [List.flatten_cons, List.mem_append]; exact .inr hb

theorem All.append {c : Ctx} {S T : List HP} {fs gs : List (List Nat)} (h : All c S fs) (k : All c T gs) : All c (S ++ T) (fs ++ gs) := by
  induction h with
  | nil => exact k
  | cons hp _ ih => exact .cons hp ih

theorem All.split {c : Ctx} {S T : List HP} : ∀ {fs : List (List Nat)}, All c (S ++ T) fs → ∃ f g, fs = f ++ g ∧ All c S f ∧ All c T g := by
  induction S with
  | nil => intro fs h; exact ⟨[], fs, rfl, .nil, h⟩
  | cons x S ih =>
    intro fs h
    cases h with
    | @cons _ f _ fs hp hr =>
      obtain ⟨f', g, rfl, h1, h2⟩ := ih hr
      exact ⟨f :: f', g, rfl, .cons hp h1, h2⟩

abbrev Post := Exit → Slots → List HP → Prop

/-- the outcome of a run that began at c -/
def Out (n : Nat) (Q : Post) (c : Ctx) (e : Exit) (a : Act) (w : World) : Prop :=
  ∃ F' φ' S', c.le ⟨F', c.U, w⟩ ∧ FH ⟨F', c.U, w⟩ n φ' a ∧ SH ⟨F', c.U, w⟩ S' ∧ Q e φ' S'

structure Run (P : Program) (n : Nat) (x : Code) (Q : Post) (φ : Slots) (S : List HP) : Prop where
  run : ∀ c a, FH c n φ a → SH c S → x.wp P (Out n Q c) a c.w

theorem Out.le {n : Nat} {Q : Post} {c c' : Ctx} {e : Exit} {a : Act} {w : World} (h : c.le c') (k : Out n Q c' e a w) : Out n Q c e a w :=
  by
  obtain ⟨F', φ', S', hl, hf, hs, hq⟩ := k
  rw [h.un] at hl hf hs
  exact ⟨F', φ', S', h.trans hl, hf, hs, hq⟩

section rules
variable {P : Program} {n : Nat} {Q : Post} {φ : Slots} {S : List HP}

theorem Run.skip (h : Q .normal φ S) : Run P n .skip Q φ S := ⟨fun c a hf hs => wp_skip ⟨c.F, φ, S, .refl c, hf, hs, h⟩⟩
theorem Run.exit {id : Nat} (h : Q (.exit id) φ S) : Run P n (.exit id) Q φ S := ⟨fun c a hf hs => wp_exit ⟨c.F, φ, S, .refl c, hf, hs, h⟩⟩
theorem Run.ret (h : Q .ret φ S) : Run P n .ret Q φ S := ⟨fun c a hf hs => wp_ret ⟨c.F, φ, S, .refl c, hf, hs, h⟩⟩

def Post.seq (y : Slots → List HP → Prop) (Q : Post) : Post
  | .normal, φ, S => y φ S
  | e, φ, S => Q e φ S

theorem Run.seq {x y : Code} (h : Run P n x (Post.seq (Run P n y Q) Q) φ S) : Run P n (.seq x y) Q φ S := by
  refine ⟨fun c a hf hs => ?_⟩
  refine wp_seq (wp_mono (h.run c a hf hs) fun e a' w' ho => ?_)
  obtain ⟨F', φ', S', hl, hf', hs', hq⟩ := ho
  cases e with
  | normal => exact wp_mono (hq.run ⟨F', c.U, w'⟩ a' hf' hs') fun _ _ _ k => k.le hl
  | _ => exact ⟨F', φ', S', hl, hf', hs', hq⟩

def Post.block (id : Nat) (Q : Post) : Post
  | .exit id', φ, S => cond (Nat.beq id' id) (Q .normal φ S) (Q (.exit id') φ S)
  | e, φ, S => Q e φ S

theorem Run.block {id : Nat} {x : Code} (h : Run P n x (Post.block id Q) φ S) : Run P n (.block id x) Q φ S := by
  refine ⟨fun c a hf hs => ?_⟩
  refine wp_block (wp_mono (h.run c a hf hs) fun e a' w' ho => ?_)
  obtain ⟨F', φ', S', hl, hf', hs', hq⟩ := ho
  cases e with
  | exit id' =>
    simp only [Exit.inBlock]
    by_cases hid : id' = id
    · subst hid
      simp only [Post.block, Nat.beq_refl, cond_true] at hq
      rw [if_pos rfl]; exact ⟨F', φ', S', hl, hf', hs', hq⟩
    · rw [if_neg hid]
      have : Nat.beq id' id = false := by
        cases hb : Nat.beq id' id with
        | false => rfl
        | true => exact absurd (Nat.eq_of_beq_eq_true hb) hid
      simp only [Post.block, this, cond_false] at hq
      exact ⟨F', φ', S', hl, hf', hs', hq⟩
  | _ => exact ⟨F', φ', S', hl, hf', hs', hq⟩

def opd (φ : Slots) : Operand → Option VP
  | .tmp t => φ.get t
  | .const v => some (vlit v)
  | .func f => some (vlit (.func (.func f) #[] #[]))
  | .global g => some (vlit (.pointer (some ⟨g, 0, none⟩)))

theorem FH.opd {c : Ctx} {a : Act} {x : Operand} {p : VP} (hf : FH c n φ a) (h : opd φ x = some p) : p.p c (a.eval x) := by
  cases x with
  | tmp t => exact hf.slot t p h
  | const v => simp only [Go.Proofs.YtemfpennomelaaaDoor.opd, Option.some.injEq] at h; subst h; rfl
  | func f => simp only [Go.Proofs.YtemfpennomelaaaDoor.opd, Option.some.injEq] at h; subst h; rfl
  | global g => simp only [Go.Proofs.YtemfpennomelaaaDoor.opd, Option.some.injEq] at h; subst h; rfl

theorem Run.cond {x : Operand} {y z : Code} {b : Bool} (hb : opd φ x = some (vbool b)) (ht : b = true → Run P n y Q φ S) (he : b = false → Run P n z Q φ S) :
    Run P n (.cond x y z) Q φ S := ⟨fun c a hf hs =>
  wp_cond_split (t := b) (hf.opd hb) (fun h => (ht h).run c a hf hs) (fun h => (he h).run c a hf hs)⟩

/-- weakening the state; memory may be frozen besides -/
def Ent (φ : Slots) (S : List HP) (φ' : Slots) (S' : List HP) : Prop :=
  ∀ c n a, FH c n φ a → SH c S → ∃ F', c.le ⟨F', c.U, c.w⟩ ∧ FH ⟨F', c.U, c.w⟩ n φ' a ∧ SH ⟨F', c.U, c.w⟩ S'

theorem Run.weaken {x : Code} {φ' : Slots} {S' : List HP} (h : Ent φ S φ' S') (hr : Run P n x Q φ' S') : Run P n x Q φ S :=
  ⟨fun c a hf hs => let ⟨F', hl, h1, h2⟩ := h c n a hf hs; wp_mono (hr.run ⟨F', c.U, c.w⟩ a h1 h2) fun _ _ _ k => k.le hl⟩

theorem Ent.refl (φ : Slots) (S : List HP) : Ent φ S φ S := fun c _ _ h k => ⟨c.F, .refl c, h, k⟩
theorem Ent.trans {φ φ' φ'' : Slots} {S S' S'' : List HP} (h : Ent φ S φ' S') (k : Ent φ' S' φ'' S'') : Ent φ S φ'' S'' := fun c n a hf hs => by
  obtain ⟨F', hl, h1, h2⟩ := h c n a hf hs
  obtain ⟨F'', hl', h3, h4⟩ := k ⟨F', c.U, c.w⟩ n a h1 h2
  exact ⟨F'', hl.trans hl', h3, h4⟩

/-- a loop with an invariant over native data: x ↦ slots and chunks -/
theorem Run.loop {α : Type} {body : Code} (φx : α → Slots) (Sx : α → List HP) (Pr : α → Prop) (μ : α → Nat) (x0 : α) (h0 : Pr x0)
    (hent : Ent φ S (φx x0) (Sx x0))
    (round : ∀ x, Pr x → Run P n body (Post.seq (fun φ' S' => ∃ y, Pr y ∧ μ y < μ x ∧ Ent φ' S' (φx y) (Sx y)) Q) (φx x) (Sx x)) :
    Run P n (.loop body) Q φ S := by
  refine ⟨fun c a hf hs => ?_⟩
  obtain ⟨F0, hl0, hh1, hh2⟩ := hent c n a hf hs
  have key : ∀ m a w, (∃ F' x, μ x = m ∧ c.le ⟨F', c.U, w⟩ ∧ Pr x ∧ FH ⟨F', c.U, w⟩ n (φx x) a ∧ SH ⟨F', c.U, w⟩ (Sx x)) →
      ∀ (b : Frame) (k : List Item) (cs : List Frame), ∃ e a' w', Out n Q c e a' w' ∧
        Arrives P (lone (b.at a (.code body :: .inLoop body :: k)) cs w) b k cs e a' w' := by
    intro m
    induction m using Nat.strongRecOn with
    | _ m ih =>
      rintro a w ⟨F', x, rfl, hl, hp, hf', hs'⟩ b k cs
      obtain ⟨e, a₁, w₁, hq, harr⟩ := (round x hp).run ⟨F', c.U, w⟩ a hf' hs' b (.inLoop body :: k) cs
      have hq' := hq.le hl
      obtain ⟨F1, φ1, S1, hl1, hf1, hs1, hq1⟩ := hq'
      cases e with
      | normal =>
        obtain ⟨y, hy, hlt, hen⟩ := hq1
        obtain ⟨F2, hl2, hh1, hh2⟩ := hen ⟨F1, c.U, w₁⟩ n a₁ hf1 hs1
        obtain ⟨e₂, a₂, w₂, hq₂, harr₂⟩ := ih (μ y) hlt a₁ w₁ ⟨F2, y, rfl, hl1.trans hl2, hy, hh1, hh2⟩ b k cs
        exact ⟨e₂, a₂, w₂, hq₂, .of_steps (Steps.trans harr (.one step_inLoop)) harr₂⟩
      | exit id => exact ⟨_, a₁, w₁, ⟨F1, φ1, S1, hl1, hf1, hs1, hq1⟩, .pass (x := .inLoop body) rfl (fun _ _ => .inl (by simp)) harr⟩
      | goto l => exact ⟨_, a₁, w₁, ⟨F1, φ1, S1, hl1, hf1, hs1, hq1⟩, .pass (x := .inLoop body) rfl (fun _ _ => .inl (by simp)) harr⟩
      | ret => exact ⟨_, a₁, w₁, ⟨F1, φ1, S1, hl1, hf1, hs1, hq1⟩, .pass (x := .inLoop body) rfl (fun _ _ => .inl (by simp)) harr⟩
      | panic ch => exact ⟨_, a₁, w₁, ⟨F1, φ1, S1, hl1, hf1, hs1, hq1⟩, .pass (x := .inLoop body) rfl (fun _ _ => .inl (by simp)) harr⟩
      | outgrown => exact ⟨_, a₁, w₁, ⟨F1, φ1, S1, hl1, hf1, hs1, hq1⟩, .pass (x := .inLoop body) rfl (fun _ _ => .inl (by simp)) harr⟩
  intro b k cs
  obtain ⟨e, a', w', hq, harr⟩ := key _ a c.w ⟨F0, x0, rfl, hl0, h0, hh1, hh2⟩ b k cs
  exact ⟨e, a', w', hq, .of_steps (.one step_loop) harr⟩

end rules
end Go.Proofs.YtemfpennomelaaaDoor

/- The operations of a region, one by one: the judgement RL; calls by contract. Proved for every program P; no conditions. -/
namespace Go.Proofs.YtemfpennomelaaaDoor
open Go
set_option linter.unusedVariables false

/-- the operations l that are left of the region ops, from the k-th on -/
structure RL (P : Program) (n : Nat) (ops : Array Oper) (l : List Oper) (K : Slots → List HP → Prop) (φ : Slots) (S : List HP) : Prop where
  run : ∀ c a k, (∀ j, l[j]? = ops[k + j]?) → FH c n φ a → SH c S →
    wpOps P ops (Out n (fun e φ' S' => e = .normal ∧ K φ' S') c) (List.range' k l.length) a c.w

/-- the same where the first of them is carried out whatever its guard -/
structure RH (P : Program) (n : Nat) (ops : Array Oper) (o : Oper) (l : List Oper) (K : Slots → List HP → Prop) (φ : Slots) (S : List HP) : Prop where
  run : ∀ c a k, (∀ j, l[j]? = ops[k + j]?) → FH c n φ a → SH c S →
    o.wp P a c.w (wpOps P ops (Out n (fun e φ' S' => e = .normal ∧ K φ' S') c) (List.range' k l.length)) (Out n (fun e φ' S' => e = .normal ∧ K φ' S') c)

theorem getD_set_self (xs : Array Value) (t : Nat) (v : Value) : (xs.setIfInBounds t v).getD t v = v := by
  by_cases h : t < xs.size <;> simp [Array.getD, h]

theorem wpOps_mono {P : Program} {ops : Array Oper} {Q Q' : Exit → Act → World → Prop} (hq : ∀ e a w, Q e a w → Q' e a w) :
    ∀ (l : List Nat) (a : Act) (w : World), wpOps P ops Q l a w → wpOps P ops Q' l a w := by
  intro l
  induction l with
  | nil => exact fun a w h => hq _ _ _ h
  | cons i r ih =>
    intro a w h
    simp only [wpOps] at h ⊢
    cases ho : ops[i]? with
    | none => simp only [ho] at h ⊢; exact ih a w h
    | some o =>
      simp only [ho] at h ⊢
      split
      · rename_i hw
        simp only [hw, if_true] at h
        refine h.imp (fun h => ?_) (fun ⟨h1, a', w', h2⟩ => ⟨h1, a', w', hq _ _ _ h2⟩)
        unfold Oper.wp at h ⊢
        generalize (execOp a.eval o).run P w = x at h ⊢
        cases x with
        | ok nx w' =>
          cases nx <;> simp only [Oper.upon] at h ⊢ <;>
            first
              | exact ih _ _ h
              | exact Calls.mono h (fun e w'' he => by cases e <;> first | exact ih _ _ he | exact hq _ _ _ he | exact (let ⟨a', w', h2⟩ := he; ⟨a', w', hq _ _ _ h2⟩))
              | exact Rows.mono h (fun _ _ he => ih _ _ he)
        | halt x w' => cases x <;> simp only [Oper.upon] at h ⊢ <;> exact hq _ _ _ h
      · rename_i hw
        simp only [hw] at h
        exact ih _ _ h

section
variable {P : Program} {n : Nat} {ops : Array Oper} {o : Oper} {l : List Oper} {K : Slots → List HP → Prop} {φ : Slots} {S : List HP}

theorem Run.region {Q : Post} {id : Nat} {lo : List Oper} (h : RL P n lo.toArray lo (Q .normal) φ S) : Run P n (.region id lo.toArray false) Q φ S := by
  refine ⟨fun c a hf hs => ?_⟩
  refine wp_region ?_
  have := h.run c a 0 (by intro j; simp) hf hs
  have e : List.range lo.toArray.size = List.range' 0 lo.length := by simp [List.range_eq_range']
  rw [e]
  exact wpOps_mono (fun e a w ⟨F', φ', S', hl, hf, hs, he, hk⟩ => ⟨F', φ', S', hl, hf, hs, by subst he; exact hk⟩) _ _ _ this

theorem RL.done (h : K φ S) : RL P n ops [] K φ S := ⟨fun c a k _ hf hs => ⟨c.F, φ, S, .refl c, hf, hs, rfl, h⟩⟩

theorem range'_shift (k m : Nat) : List.range' k (m + 1) = k :: List.range' (k + 1) m := rfl

theorem RL.tail {c : Ctx} {k : Nat} (h : ∀ j, (o :: l)[j]? = ops[k + j]?) : ∀ j, l[j]? = ops[k + 1 + j]? := fun j => by
  have := h (j + 1); simpa [Nat.add_assoc, Nat.add_comm 1 j] using this

theorem RL.wanted (hg : o.guard = none) (h : RH P n ops o l K φ S) : RL P n ops (o :: l) K φ S := by
  refine ⟨fun c a k hl hf hs => ?_⟩
  have h0 : ops[k]? = some o := by simpa using (hl 0).symm
  simp only [List.length_cons, range'_shift, wpOps, h0]
  rw [if_pos (by simp [Region.wanted, hg])]
  exact .inl (h.run c a (k + 1) (RL.tail (c := c) hl) hf hs)

theorem yielded_of {c : Ctx} {a : Act} {j d : Nat} {v : Value} (hf : FH c n φ a) (hj : (ops[j]?).bind (·.dst) = some d) (hd : d < n) (hv : φ.get d = some (vlit v)) :
    yielded ops a.tmps j = match v with | .bool b => some b | _ => none := by
  have hs : a.tmps.getD d undef = v := hf.slot d _ hv
  have hlt : d < a.tmps.size := hf.size ▸ hd
  have : a.tmps[d]? = some v := by
    rw [Array.getElem?_eq_getElem hlt]; simp only [Array.getD, hlt, dite_true] at hs; exact congrArg some hs
  unfold yielded
  rw [hj, Option.bind_some, this]
  cases v <;> rfl

theorem RL.weaken {φ' : Slots} {S' : List HP} (h : Ent φ S φ' S') (hr : RL P n ops l K φ' S') : RL P n ops l K φ S := by
  refine ⟨fun c a k hl hf hs => ?_⟩
  obtain ⟨F', hle, h1, h2⟩ := h c n a hf hs
  exact wpOps_mono (fun _ _ _ => Out.le hle) _ _ _ (hr.run ⟨F', c.U, c.w⟩ a k hl h1 h2)

/-- a guarded operation whose guard is a bool -/
theorem RL.guard {j d : Nat} {want b : Bool} (hg : o.guard = some (j, want)) (hj : (ops[j]?).bind (·.dst) = some d) (hd : Nat.blt d n = true) (hv : φ.get d = some (vbool b))
    (ht : b = want → RH P n ops o l K ((d, vbool want) :: φ) S) (he : b = (!want) → RL P n ops l K (match o.dst with | some t => (t, vlit undef) :: (d, vbool (!want)) :: φ | none => (d, vbool (!want)) :: φ) S) :
    RL P n ops (o :: l) K φ S := by
  refine ⟨fun c a k hl hf hs => ?_⟩
  have h0 : ops[k]? = some o := by simpa using (hl 0).symm
  have hy := yielded_of hf hj (Nat.blt_eq.mp hd) hv
  have again : FH c n ((d, vbool b) :: φ) a := ⟨hf.size, hf.defers, fun t p ht => by
    simp only [Slots.get] at ht
    cases hbt : Nat.beq d t with
    | true => obtain rfl := Nat.eq_of_beq_eq_true hbt; simp only [hbt, cond_true, Option.some.injEq] at ht; subst ht; exact hf.slot d _ hv
    | false => simp only [hbt, cond_false] at ht; exact hf.slot t p ht⟩
  simp only [List.length_cons, range'_shift, wpOps, h0]
  by_cases hb : b = want
  · rw [if_pos (by simp [Region.wanted, hg, hy, hb])]
    exact .inl ((ht hb).run c a (k + 1) (RL.tail (c := c) hl) (hb ▸ again) hs)
  · have hb' : b = (!want) := by cases b <;> cases want <;> simp_all
    rw [if_neg (by simp [Region.wanted, hg, hy, hb])]
    refine (he hb').run c _ (k + 1) (RL.tail (c := c) hl) ?_ hs
    rw [hb'] at again
    cases hd' : o.dst with
    | none => exact again
    | some t =>
      have hf := again
      refine ⟨by simpa [Act.put] using hf.size, hf.defers, fun t' p hp => ?_⟩
      simp only [Slots.get] at hp
      cases hbt : Nat.beq t t' with
      | true =>
        obtain rfl := Nat.eq_of_beq_eq_true hbt
        simp only [hbt, cond_true, Option.some.injEq] at hp; subst hp
        exact getD_set_self _ _ _
      | false =>
        simp only [hbt, cond_false] at hp
        have := hf.slot t' p hp
        have hne : t ≠ t' := fun e => by subst e; simp [Nat.beq_refl] at hbt
        simpa [Act.put, Array.getD_eq_getD_getElem?, Array.getElem?_setIfInBounds_ne hne] using this

/-- a value that is not the one that a guard wants -/
def isNot (want : Bool) : Value → Bool
  | .bool b => b != want
  | _ => true

/-- a guarded operation whose guard says no -/
theorem RL.guardNo {j d : Nat} {want : Bool} {v : Value} (hg : o.guard = some (j, want)) (hj : (ops[j]?).bind (·.dst) = some d) (hd : Nat.blt d n = true) (hv : φ.get d = some (vlit v)) (hno : isNot want v = true)
    (he : RL P n ops l K (match o.dst with | some t => (t, vlit undef) :: φ | none => φ) S) :
    RL P n ops (o :: l) K φ S := by
  refine ⟨fun c a k hl hf hs => ?_⟩
  have h0 : ops[k]? = some o := by simpa using (hl 0).symm
  have hy := yielded_of hf hj (Nat.blt_eq.mp hd) hv
  simp only [List.length_cons, range'_shift, wpOps, h0]
  rw [if_neg (by cases v <;> simp_all [Region.wanted, isNot])]
  refine he.run c _ (k + 1) (RL.tail (c := c) hl) ?_ hs
  cases hd' : o.dst with
  | none => exact hf
  | some t =>
    refine ⟨by simpa [Act.put] using hf.size, hf.defers, fun t' p hp => ?_⟩
    simp only [Slots.get] at hp
    cases hbt : Nat.beq t t' with
    | true =>
      obtain rfl := Nat.eq_of_beq_eq_true hbt
      simp only [hbt, cond_true, Option.some.injEq] at hp; subst hp
      exact getD_set_self _ _ _
    | false =>
      simp only [hbt, cond_false] at hp
      have := hf.slot t' p hp
      have hne : t ≠ t' := fun e => by subst e; simp [Nat.beq_refl] at hbt
      simpa [Act.put, Array.getD_eq_getD_getElem?, Array.getElem?_setIfInBounds_ne hne] using this

theorem RL.guardYes {j d : Nat} {want : Bool} (hg : o.guard = some (j, want)) (hj : (ops[j]?).bind (·.dst) = some d) (hd : Nat.blt d n = true) (hv : φ.get d = some (vbool want))
    (ht : RH P n ops o l K φ S) : RL P n ops (o :: l) K φ S := by
  refine ⟨fun c a k hl hf hs => ?_⟩
  have h0 : ops[k]? = some o := by simpa using (hl 0).symm
  have hy := yielded_of hf hj (Nat.blt_eq.mp hd) hv
  simp only [List.length_cons, range'_shift, wpOps, h0]
  rw [if_pos (by simp [Region.wanted, hg, hy])]
  exact .inl (ht.run c a (k + 1) (RL.tail (c := c) hl) hf hs)

/-- a value put into a slot -/
theorem FH.put {c : Ctx} {a : Act} {d : Nat} {p : VP} {v : Value} (hf : FH c n φ a) (hd : d < n) (hv : p.p c v) : FH c n ((d, p) :: φ) (a.put (some d) v) := by
  refine ⟨by simpa [Act.put] using hf.size, hf.defers, fun t' q hq => ?_⟩
  simp only [Slots.get] at hq
  cases hbt : Nat.beq d t' with
  | true =>
    obtain rfl := Nat.eq_of_beq_eq_true hbt
    simp only [hbt, cond_true, Option.some.injEq] at hq; subst hq
    have hlt : d < a.tmps.size := hf.size ▸ hd
    have : (a.put (some d) v).tmps.getD d undef = v := by
      show (a.tmps.setIfInBounds d v).getD d undef = v
      simp only [Array.getD_eq_getD_getElem?, Array.getElem?_setIfInBounds]
      simp [hlt]
    rw [this]; exact hv
  | false =>
    simp only [hbt, cond_false] at hq
    have := hf.slot t' q hq
    have hne : d ≠ t' := fun e => by subst e; simp [Nat.beq_refl] at hbt
    simpa [Act.put, Array.getD_eq_getD_getElem?, Array.getElem?_setIfInBounds_ne hne] using this

/-- the blocks of w are as they were -/
structure Same (w w' : World) : Prop where
  heap : ∀ b, b < w.heap.size → w'.heap[b]? = w.heap[b]?
  size : w.heap.size ≤ w'.heap.size
theorem Same.refl (w : World) : Same w w := ⟨fun _ _ => rfl, Nat.le_refl _⟩
theorem Same.trans {a b c : World} (h : Same a b) (k : Same b c) : Same a c :=
  ⟨fun x hx => (k.heap x (Nat.lt_of_lt_of_le hx h.size)).trans (h.heap x hx), Nat.le_trans h.size k.size⟩
theorem Same.cell {w w' : World} (h : Same w w') {a : Addr} {v : Value} (hc : w.cell? a = some v) : w'.cell? a = some v := by
  have hlt : a.block < w.heap.size := by
    apply Classical.byContradiction
    intro hn
    have : w.heap[a.block]? = none := by simp; omega
    simp [World.cell?, this] at hc
  simpa [World.cell?, h.heap _ hlt] using hc

/-- an operation that yields a value and leaves the world alone; it yields the same value if there are new blocks besides -/
structure VOp (P : Program) (n : Nat) (φ : Slots) (S : List HP) (o : Oper) (r : VP) : Prop where
  run : ∀ c a, FH c n φ a → SH c S → ∃ v, (∀ w', Same c.w w' → (execOp a.eval o).run P w' = .ok (.value v) w') ∧ r.p c v

theorem RH.value {d : Nat} {r : VP} (hd : o.dst = some d) (hn : Nat.blt d n = true) (hv : VOp P n φ S o r) (h : RL P n ops l K ((d, r) :: φ) S) : RH P n ops o l K φ S := by
    refine ⟨fun c a k hl hf hs => ?_⟩
    obtain ⟨v, he, hr⟩ := hv.run c a hf hs
    unfold Oper.wp
    rw [he c.w (.refl _), Oper.upon_value, hd]
    exact h.run c _ k hl (hf.put (Nat.blt_eq.mp hn) hr) hs

/-- an operation that may make memory or write owned memory, and yields a value -/
structure EOp (P : Program) (n : Nat) (φ : Slots) (S : List HP) (o : Oper) (R : VP → List HP → Prop) : Prop where
  run : ∀ c a, FH c n φ a → SH c S → ∃ v w' F' r S', (execOp a.eval o).run P c.w = .ok (.value v) w' ∧ c.le ⟨F', c.U, w'⟩ ∧ r.p ⟨F', c.U, w'⟩ v ∧ SH ⟨F', c.U, w'⟩ S' ∧ R r S'

theorem RL.le {c c' : Ctx} {k : Nat} {a : Act} (hl : c.le c') (h : wpOps P ops (Out n (fun e φ' S' => e = .normal ∧ K φ' S') c') (List.range' k l.length) a c'.w) :
    wpOps P ops (Out n (fun e φ' S' => e = .normal ∧ K φ' S') c) (List.range' k l.length) a c'.w :=
  wpOps_mono (fun _ _ _ => Out.le hl) _ _ _ h

theorem RH.eff {d : Nat} {R : VP → List HP → Prop} (hd : o.dst = some d) (hn : Nat.blt d n = true) (hv : EOp P n φ S o R) (h : ∀ r S', R r S' → RL P n ops l K ((d, r) :: φ) S') :
    RH P n ops o l K φ S := by
  refine ⟨fun c a k hl hf hs => ?_⟩
  obtain ⟨v, w', F', r, S', he, hle, hr, hs', hR⟩ := hv.run c a hf hs
  unfold Oper.wp
  rw [he, Oper.upon_value, hd]
  exact RL.le (c' := ⟨F', c.U, w'⟩) hle ((h r S' hR).run ⟨F', c.U, w'⟩ _ k hl ((hf.le hle).put (Nat.blt_eq.mp hn) hr) hs')

/-- an operation that writes owned memory and yields nothing -/
structure UOp (P : Program) (n : Nat) (φ : Slots) (S : List HP) (o : Oper) (R : List HP → Prop) : Prop where
  run : ∀ c a, FH c n φ a → SH c S → ∃ w' F' S', (execOp a.eval o).run P c.w = .ok .skip w' ∧ c.le ⟨F', c.U, w'⟩ ∧ SH ⟨F', c.U, w'⟩ S' ∧ R S'

theorem RH.unit {R : List HP → Prop} (hd : o.dst = none) (hv : UOp P n φ S o R) (h : ∀ S', R S' → RL P n ops l K φ S') : RH P n ops o l K φ S := by
  refine ⟨fun c a k hl hf hs => ?_⟩
  obtain ⟨w', F', S', he, hle, hs', hR⟩ := hv.run c a hf hs
  unfold Oper.wp
  rw [he, Oper.upon_skip, hd]
  exact RL.le (c' := ⟨F', c.U, w'⟩) hle ((h S' hR).run ⟨F', c.U, w'⟩ _ k hl (hf.le hle) hs')

/-- the arguments of a call -/
inductive Args (c : Ctx) : List VP → List Value → Prop
  | nil : Args c [] []
  | cons {p : VP} {v : Value} {ps : List VP} {vs : List Value} : p.p c v → Args c ps vs → Args c (p :: ps) (v :: vs)

/-- A CONTRACT: called with values that meet ps, in a world that holds S, the function returns a value and a state with R -/
structure Spec (P : Program) (f : FuncId) (ps : List VP) (S : List HP) (R : VP → List HP → Prop) : Prop where
  run : ∀ c vs, Args c ps vs → SH c S → Calls P f vs.toArray c.w fun e w' =>
    ∃ v F' r S', e = .returned v ∧ c.le ⟨F', c.U, w'⟩ ∧ r.p ⟨F', c.U, w'⟩ v ∧ SH ⟨F', c.U, w'⟩ S' ∧ R r S'

theorem Spec.mono {f : FuncId} {ps : List VP} {R R' : VP → List HP → Prop} (h : Spec P f ps S R) (hr : ∀ r S', R r S' → R' r S') : Spec P f ps S R' :=
  ⟨fun c vs ha hs => (h.run c vs ha hs).mono fun _ _ ⟨v, F', r, S', h1, h2, h3, h4, h5⟩ => ⟨v, F', r, S', h1, h2, h3, h4, hr _ _ h5⟩⟩

inductive Opds (φ : Slots) : List Operand → List VP → Prop
  | nil : Opds φ [] []
  | cons {x : Operand} {p : VP} {xs : List Operand} {ps : List VP} : opd φ x = some p → Opds φ xs ps → Opds φ (x :: xs) (p :: ps)

theorem Opds.args {c : Ctx} {a : Act} (hf : FH c n φ a) {xs : List Operand} {ps : List VP} (h : Opds φ xs ps) : Args c ps (xs.map a.eval) := by
  induction h with
  | nil => exact .nil
  | cons hx _ ih => exact .cons (hf.opd hx) ih

/-- that the program enters f when f is called -/
def Enters (P : Program) (f : FuncId) : Prop := ∀ args w, (callFunc f args).run P w = .ok (.enter f args) w

/-- a call of a named function -/
theorem RH.call {d : Nat} {f : FuncId} {xs : List Operand} {ts : Array TypeId} {ps : List VP} {R : VP → List HP → Prop} (ho : o.op = .call ⟨.value (.func f), xs.toArray, ts⟩) (hd : o.dst = some d)
    (hn : Nat.blt d n = true) (he : Enters P f) (ha : Opds φ xs ps) (hv : Spec P f ps S R) (h : ∀ r S', R r S' → RL P n ops l K ((d, r) :: φ) S') :
    RH P n ops o l K φ S := by
  refine ⟨fun c a k hl hf hs => ?_⟩
  have hx := he (xs.map a.eval).toArray c.w
  unfold Oper.wp
  have e1 : (execOp a.eval o).run P c.w = (callFunc f (xs.map a.eval).toArray).run P c.w := by
    simp [execOp, ho, resolve, Act.eval, Deferred.ofValue, invoke]
  rw [e1, hx, Oper.upon_enter]
  refine (hv.run c (xs.map a.eval) (ha.args hf) hs).mono fun e w' ⟨v, F', r, S', e2, hle, hr, hs', hR⟩ => ?_
  subst e2
  rw [hd]
  exact RL.le (c' := ⟨F', c.U, w'⟩) hle ((h r S' hR).run ⟨F', c.U, w'⟩ _ k hl ((hf.le hle).put (Nat.blt_eq.mp hn) hr) hs')

end

/-- keep these slots, forget all others -/
inductive Keep (φ : Slots) : List Nat → Slots → Prop
  | nil : Keep φ [] []
  | cons {t : Nat} {p : VP} {ts : List Nat} {ψ : Slots} : φ.get t = some p → Keep φ ts ψ → Keep φ (t :: ts) ((t, p) :: ψ)

theorem Keep.sub {φ ψ : Slots} {ts : List Nat} (h : Keep φ ts ψ) : ∀ t p, ψ.get t = some p → φ.get t = some p := by
  induction h with
  | nil => intro t p h; cases h
  | @cons t' p' ts ψ ht _ ih =>
    intro t p h
    simp only [Slots.get] at h
    cases hb : Nat.beq t' t with
    | true => obtain rfl := Nat.eq_of_beq_eq_true hb; simp only [hb, cond_true, Option.some.injEq] at h; subst h; exact ht
    | false => simp only [hb, cond_false] at h; exact ih t p h

theorem Ent.keep {φ ψ : Slots} {S : List HP} {ts : List Nat} (h : Keep φ ts ψ) : Ent φ S ψ S := fun c n a hf hs => ⟨c.F, .refl c, ⟨hf.size, hf.defers, fun t p ht => hf.slot t p (h.sub t p ht)⟩, hs⟩

theorem Run.keep {P : Program} {n : Nat} {x : Code} {Q : Post} {φ ψ : Slots} {S : List HP} (ts : List Nat) (h : Keep φ ts ψ) (hr : Run P n x Q ψ S) : Run P n x Q φ S :=
  Run.weaken (Ent.keep h) hr

/-- the results of a function -/
inductive Res (P : Program) (φ : Slots) (S : List HP) : List ResultVar → List VP → Prop
  | nil : Res P φ S [] []
  | tmp {t : Nat} {p : VP} {rs : List ResultVar} {ps : List VP} : φ.get t = some p → Res P φ S rs ps → Res P φ S (.tmp t :: rs) (p :: ps)
  | cell {a : Nat} {ty : TypeId} {q p : VP} {rs : List ResultVar} {ps : List VP} : φ.get a = some q →
      (∀ c v, q.p c v → SH c S → ∃ u, (do loadVar ty (← asAddr v)).run P c.w = .ok u c.w ∧ p.p c u) → Res P φ S rs ps → Res P φ S (.cell a ty :: rs) (p :: ps)

inductive VPs (c : Ctx) : List VP → List Value → Prop
  | nil : VPs c [] []
  | cons {p : VP} {v : Value} {ps : List VP} {vs : List Value} : p.p c v → VPs c ps vs → VPs c (p :: ps) (v :: vs)

theorem VPs.mono {c c' : Ctx} (h : c.leV c') {ps : List VP} {vs : List Value} (k : VPs c ps vs) : VPs c' ps vs := by
  induction k with
  | nil => exact .nil
  | cons hp _ ih => exact .cons (VP.mono _ h hp) ih

theorem VPs.length {c : Ctx} {ps : List VP} {vs : List Value} (k : VPs c ps vs) : ps.length = vs.length := by
  induction k with
  | nil => rfl
  | cons _ _ ih => simp [ih]

/-- a tuple of results -/
def vtup (ps : List VP) : VP := ⟨fun c v => ∃ vs, v = .tuple vs.toArray ∧ VPs c ps vs, fun {_ _ _} h k => by obtain ⟨vs, h1, h2⟩ := k; exact ⟨vs, h1, h2.mono h⟩⟩

/-- one result is itself, several are a tuple -/
def vres : List VP → VP
  | [p] => p
  | ps => vtup ps

def resV (tmps : Array Value) : ResultVar → Sem Value
  | .tmp t => pure (tmps.getD t undef)
  | .cell a t => do loadVar t (← asAddr (tmps.getD a undef))

theorem results_eq (fn : Func) (tmps : Array Value) : results fn tmps = (do let vs ← fn.results.mapM (resV tmps); pure (if h : vs.size = 1 then vs[0] else .tuple vs)) := by
  unfold results
  congr 1

theorem Res.run {P : Program} {c : Ctx} {n : Nat} {φ : Slots} {S : List HP} {a : Act} (hf : FH c n φ a) (hs : SH c S) {rs : List ResultVar} {ps : List VP} (h : Res P φ S rs ps) :
    ∃ vs, VPs c ps vs ∧ (rs.mapM (resV a.tmps)).run P c.w = .ok vs c.w := by
  induction h with
  | nil => exact ⟨[], .nil, rfl⟩
  | @tmp t p rs ps ht _ ih =>
    obtain ⟨vs, h1, h2⟩ := ih
    refine ⟨_ :: vs, .cons (hf.slot t p ht) h1, ?_⟩
    rw [List.mapM_cons]
    show Sem.run P ((resV a.tmps (.tmp t)).bind fun x => (List.mapM (resV a.tmps) rs).bind fun xs => Sem.pure (x :: xs)) c.w = _
    rw [Sem.run_bind']
    simp only [resV]
    show Sem.run P ((List.mapM (resV a.tmps) rs).bind fun xs => Sem.pure (_ :: xs)) c.w = _
    rw [Sem.run_bind', h2]; rfl
  | @cell x ty q p rs ps ht hl _ ih =>
    obtain ⟨vs, h1, h2⟩ := ih
    obtain ⟨u, hu, hp⟩ := hl c _ (hf.slot x q ht) hs
    refine ⟨u :: vs, .cons hp h1, ?_⟩
    rw [List.mapM_cons]
    show Sem.run P ((resV a.tmps (.cell x ty)).bind fun x => (List.mapM (resV a.tmps) rs).bind fun xs => Sem.pure (x :: xs)) c.w = _
    rw [Sem.run_bind']
    have e : (resV a.tmps (.cell x ty)).run P c.w = .ok u c.w := hu
    rw [e]
    show Sem.run P ((List.mapM (resV a.tmps) rs).bind fun xs => Sem.pure (_ :: xs)) c.w = _
    rw [Sem.run_bind', h2]; rfl

theorem Args.slot {c : Ctx} {ps : List VP} {vs : List Value} (h : Args c ps vs) : ∀ (i : Nat) (p : VP), ps[i]? = some p → ∃ v, vs[i]? = some v ∧ p.p c v := by
  induction h with
  | nil => intro i p h; simp at h
  | cons hp _ ih =>
    intro i p h
    cases i with
    | zero => simp only [List.getElem?_cons_zero, Option.some.injEq] at h; subst h; exact ⟨_, rfl, hp⟩
    | succ i => exact ih i p (by simpa using h)

theorem Args.length {c : Ctx} {ps : List VP} {vs : List Value} (k : Args c ps vs) : ps.length = vs.length := by
  induction k with
  | nil => rfl
  | cons _ _ ih => simp [ih]

/-- the slots of the parameters -/
def entry : Nat → List VP → Slots
  | _, [] => []
  | k, p :: ps => (k, p) :: entry (k + 1) ps

theorem entry_get : ∀ (ps : List VP) (k t : Nat) (p : VP), (entry k ps).get t = some p → k ≤ t ∧ ps[t - k]? = some p
  | [], _, _, _, h => by cases h
  | q :: ps, k, t, p, h => by
    simp only [entry, Slots.get] at h
    cases hb : Nat.beq k t with
    | true => obtain rfl := Nat.eq_of_beq_eq_true hb; simp only [hb, cond_true, Option.some.injEq] at h; subst h; simp
    | false =>
      simp only [hb, cond_false] at h
      obtain ⟨h1, h2⟩ := entry_get ps (k + 1) t p h
      have e : t - k = (t - (k + 1)) + 1 := by omega
      rw [e]; exact ⟨by omega, by simpa using h2⟩

/-- ENTERING A FUNCTION -/
theorem Spec.of_run {P : Program} {f : FuncId} {fn : Func} {x : Code} {ps : List VP} {S : List HP} {R : VP → List HP → Prop} {rv : List ResultVar} {n : Nat} (hf : P.funcs[f]? = some fn) (hb : fn.body = some x)
    (hrv : fn.results = rv.toArray) (hn : fn.ntmps = n) (hle : Nat.ble ps.length n = true)
    (h : Run P n x (fun e φ' S' => (e = .ret ∨ e = .normal) ∧ ∃ rs, Res P φ' S' rv rs ∧ R (vres rs) S') (entry 0 ps) S) :
    Spec P f ps S R := by
  refine ⟨fun c vs ha hs => ?_⟩
  subst hn
  have hlen := ha.length
  have hle' : ps.length ≤ fn.ntmps := Nat.le_of_ble_eq_true hle
  refine calls_of_wp hf hb (wp_mono (h.run c _ ?_ hs) ?_)
  · refine ⟨by simp; omega, rfl, fun t p ht => ?_⟩
    obtain ⟨_, h2⟩ := entry_get ps 0 t p ht
    obtain ⟨v, h3, h4⟩ := ha.slot _ _ h2
    simp only [Nat.sub_zero] at h3
    have hlt : t < vs.length := by rw [List.getElem?_eq_some_iff] at h3; exact h3.1
    have : (vs.toArray ++ Array.replicate (fn.ntmps - vs.toArray.size) undef).getD t undef = v := by
      rw [Array.getD_eq_getD_getElem?, Array.getElem?_append_left (by simpa using hlt)]
      simp [h3]
    rw [this]; exact h4
  · rintro e a w ⟨F', φ', S', hle, hf', hs', he, rs, hres, hR⟩
    obtain ⟨us, hu1, hu2⟩ := hres.run hf' hs'
    have hrun : (results fn a.tmps).run P w = .ok (if h : us.length = 1 then us[0] else .tuple us.toArray) w := by
      rw [results_eq, hrv, List.mapM_toArray]
      simp only [Sem.run_bind, Sem.run_map, hu2, Result.andThen_ok, Sem.run_pure]
      simp
    have hv : (vres rs).p ⟨F', c.U, w⟩ (if h : us.length = 1 then us[0] else .tuple us.toArray) := by
      have hl := hu1.length
      cases hu1 with
      | nil => exact ⟨[], rfl, .nil⟩
      | @cons p v ps vs hp hr =>
        cases hr with
        | nil => exact hp
        | @cons p' v' ps' vs' hp' hr' => exact ⟨v :: v' :: vs', by simp, .cons hp (.cons hp' hr')⟩
    have fin : bodyPost P fn (fun e w' => ∃ v F' r S', e = .returned v ∧ c.le ⟨F', c.U, w'⟩ ∧ r.p ⟨F', c.U, w'⟩ v ∧ SH ⟨F', c.U, w'⟩ S' ∧ R r S') .ret a w :=
      ⟨hf'.defers, _, hrun, _, F', vres rs, S', rfl, hle, hv, hs', hR⟩
    rcases he with rfl | rfl
    · exact fin
    · exact fin
end Go.Proofs.YtemfpennomelaaaDoor

/- Operations that yield a value and leave the world alone: numbers, bools, tuples, slices and structs that are frozen. Proved for every program P; conditions: indices in bounds, no overflow, no division by zero. -/
namespace Go.Proofs.YtemfpennomelaaaDoor
open Go
set_option linter.unusedVariables false

/-- facts on types, found by the class search -/
class IsSl (P : Program) (t : TypeId) (e k : outParam Nat) : Prop where
  u : P.underlying t = some (.slice e)
  s : ∀ w, (sizeOf e).run P w = .ok k w
class IsBool (P : Program) (t : TypeId) : Prop where
  u : P.underlying t = some .bool

/-- that an int does not overflow -/
def InR (z : Int) : Prop := -9223372036854775808 ≤ z ∧ z ≤ 9223372036854775807
theorem InR.wrap {z : Int} (h : InR z) : IntKind.i64.wrap z = z := IntWalk.i64_in z h
theorem InR.mk {z : Int} (h1 : -4611686018427387904 ≤ z) (h2 : z ≤ 4611686018427387904) : InR z := ⟨by omega, by omega⟩

section
variable {P : Program} {n : Nat} {φ : Slots} {S : List HP} {d : Option Tmp} {ty : TypeId} {ps : String} {af : Array Edge} {g : Option (Nat × Bool)}

theorem VOp.move {x : Operand} {p : VP} (hx : opd φ x = some p) : VOp P n φ S ⟨d, .move x, ty, ps, af, g⟩ p := ⟨fun c a hf hs => ⟨a.eval x, fun _ _ => rfl, hf.opd hx⟩⟩
theorem VOp.assign {x : Operand} {p : VP} (hx : opd φ x = some p) : VOp P n φ S ⟨d, .assign x, ty, ps, af, g⟩ p := ⟨fun c a hf hs => ⟨a.eval x, fun _ _ => rfl, hf.opd hx⟩⟩
theorem VOp.pickT {x y z : Operand} {p : VP} (hx : opd φ x = some (vbool true)) (hy : opd φ y = some p) : VOp P n φ S ⟨d, .pick x y z, ty, ps, af, g⟩ p := ⟨fun c a hf hs => ⟨a.eval y, by intro w' hw'; have h : a.eval x = .bool true := hf.opd hx; simp [execOp, h, asBool], hf.opd hy⟩⟩
theorem VOp.pickF {x y z : Operand} {p : VP} (hx : opd φ x = some (vbool false)) (hy : opd φ z = some p) : VOp P n φ S ⟨d, .pick x y z, ty, ps, af, g⟩ p := ⟨fun c a hf hs => ⟨a.eval z, by intro w' hw'; have h : a.eval x = .bool false := hf.opd hx; simp [execOp, h, asBool], hf.opd hy⟩⟩

theorem equalIn_bool {t : TypeId} (ht : P.underlying t = some .bool) (k : Nat) (p q : Bool) (w : World) : (Op.equalIn (k + 1) t (.bool p) (.bool q)).run P w = .ok (p == q) w := by
  unfold Op.equalIn
  simp [run_underlying ht]
theorem equal_bool {t : TypeId} (ht : P.underlying t = some .bool) (p q : Bool) (w : World) : (Op.equal t (.bool p) (.bool q)).run P w = .ok (p == q) w :=
  equalIn_bool ht 9999 p q w
theorem equalIn_nil {t e : TypeId} (ht : P.underlying t = some (.slice e)) (k : Nat) (b : Option Addr) (l m : Nat) (w : World) : (Op.equalIn (k + 1) t (.slice b l m) (.slice none 0 0)).run P w = .ok b.isNone w := by
  unfold Op.equalIn
  cases b <;> simp [run_underlying ht]
theorem equal_nil {t e : TypeId} (ht : P.underlying t = some (.slice e)) (b : Option Addr) (l m : Nat) (w : World) : (Op.equal t (.slice b l m) (.slice none 0 0)).run P w = .ok b.isNone w :=
  equalIn_nil ht 9999 b l m w

section bin
variable {t t' : TypeId} {x y : Operand} {i j : Int}
theorem VOp.add (hx : opd φ x = some (vint i)) (hy : opd φ y = some (vint j)) (h : InR (i + j)) : VOp P n φ S ⟨d, .binOp .add t x y t', ty, ps, af, g⟩ (vint (i + j)) := ⟨fun c a hf hs => ⟨.int .i64 (i + j), by intro w' hw'; have h1 : a.eval x = .int .i64 i := hf.opd hx; have h2 : a.eval y = .int .i64 j := hf.opd hy; simp [execOp, h1, h2, binOp, eqGuard, Op.intArith, h.wrap], rfl⟩⟩
theorem VOp.sub (hx : opd φ x = some (vint i)) (hy : opd φ y = some (vint j)) (h : InR (i - j)) : VOp P n φ S ⟨d, .binOp .sub t x y t', ty, ps, af, g⟩ (vint (i - j)) := ⟨fun c a hf hs => ⟨.int .i64 (i - j), by intro w' hw'; have h1 : a.eval x = .int .i64 i := hf.opd hx; have h2 : a.eval y = .int .i64 j := hf.opd hy; simp [execOp, h1, h2, binOp, eqGuard, Op.intArith, h.wrap], rfl⟩⟩
theorem VOp.mul (hx : opd φ x = some (vint i)) (hy : opd φ y = some (vint j)) (h : InR (i * j)) : VOp P n φ S ⟨d, .binOp .mul t x y t', ty, ps, af, g⟩ (vint (i * j)) := ⟨fun c a hf hs => ⟨.int .i64 (i * j), by intro w' hw'; have h1 : a.eval x = .int .i64 i := hf.opd hx; have h2 : a.eval y = .int .i64 j := hf.opd hy; simp [execOp, h1, h2, binOp, eqGuard, Op.intArith, h.wrap], rfl⟩⟩
theorem VOp.quo (hx : opd φ x = some (vint i)) (hy : opd φ y = some (vint j)) (hi : 0 ≤ i) (hj : 0 < j) (h : InR i) : VOp P n φ S ⟨d, .binOp .quo t x y t', ty, ps, af, g⟩ (vint (i / j)) := ⟨fun c a hf hs => ⟨.int .i64 (i / j), by
    intro w' hw'
    have h1 : a.eval x = .int .i64 i := hf.opd hx
    have h2 : a.eval y = .int .i64 j := hf.opd hy
    have hne : j ≠ 0 := by omega
    have hq : InR (i / j) := ⟨by have := Int.ediv_nonneg hi (Int.le_of_lt hj); omega, by have := Int.ediv_le_self j hi; have := h.2; omega⟩
    simp [execOp, h1, h2, binOp, eqGuard, Op.intDiv, hne, Int.tdiv_eq_ediv_of_nonneg hi, hq.wrap], rfl⟩⟩
theorem VOp.rem (hx : opd φ x = some (vint i)) (hy : opd φ y = some (vint j)) (hi : 0 ≤ i) (hj : 0 < j) : VOp P n φ S ⟨d, .binOp .rem t x y t', ty, ps, af, g⟩ (vint (i % j)) := ⟨fun c a hf hs => ⟨.int .i64 (i % j), by
    intro w' hw'
    have h1 : a.eval x = .int .i64 i := hf.opd hx
    have h2 : a.eval y = .int .i64 j := hf.opd hy
    have hne : j ≠ 0 := by omega
    simp [execOp, h1, h2, binOp, eqGuard, Op.intDiv, hne, Int.tmod_eq_emod_of_nonneg hi], rfl⟩⟩
theorem VOp.lss (hx : opd φ x = some (vint i)) (hy : opd φ y = some (vint j)) : VOp P n φ S ⟨d, .binOp .lss t x y t', ty, ps, af, g⟩ (vbool (decide (i < j))) := ⟨fun c a hf hs => ⟨.bool (decide (i < j)), by intro w' hw'; have h1 : a.eval x = .int .i64 i := hf.opd hx; have h2 : a.eval y = .int .i64 j := hf.opd hy; simp [execOp, h1, h2, binOp, eqGuard, Op.intCmp], rfl⟩⟩
theorem VOp.leq (hx : opd φ x = some (vint i)) (hy : opd φ y = some (vint j)) : VOp P n φ S ⟨d, .binOp .leq t x y t', ty, ps, af, g⟩ (vbool (decide (i ≤ j))) := ⟨fun c a hf hs => ⟨.bool (decide (i ≤ j)), by intro w' hw'; have h1 : a.eval x = .int .i64 i := hf.opd hx; have h2 : a.eval y = .int .i64 j := hf.opd hy; simp [execOp, h1, h2, binOp, eqGuard, Op.intCmp], rfl⟩⟩
theorem VOp.gtr (hx : opd φ x = some (vint i)) (hy : opd φ y = some (vint j)) : VOp P n φ S ⟨d, .binOp .gtr t x y t', ty, ps, af, g⟩ (vbool (decide (j < i))) := ⟨fun c a hf hs => ⟨.bool (decide (j < i)), by intro w' hw'; have h1 : a.eval x = .int .i64 i := hf.opd hx; have h2 : a.eval y = .int .i64 j := hf.opd hy; simp [execOp, h1, h2, binOp, eqGuard, Op.intCmp], rfl⟩⟩
theorem VOp.geq (hx : opd φ x = some (vint i)) (hy : opd φ y = some (vint j)) : VOp P n φ S ⟨d, .binOp .geq t x y t', ty, ps, af, g⟩ (vbool (decide (j ≤ i))) := ⟨fun c a hf hs => ⟨.bool (decide (j ≤ i)), by intro w' hw'; have h1 : a.eval x = .int .i64 i := hf.opd hx; have h2 : a.eval y = .int .i64 j := hf.opd hy; simp [execOp, h1, h2, binOp, eqGuard, Op.intCmp], rfl⟩⟩
theorem VOp.eql (hx : opd φ x = some (vint i)) (hy : opd φ y = some (vint j)) : VOp P n φ S ⟨d, .binOp .eql t x y t', ty, ps, af, g⟩ (vbool (decide (i = j))) := ⟨fun c a hf hs => ⟨.bool (decide (i = j)), by
    intro w' hw'
    have h1 : a.eval x = .int .i64 i := hf.opd hx; have h2 : a.eval y = .int .i64 j := hf.opd hy
    have e : (i == j) = decide (i = j) := rfl
    simp [execOp, h1, h2, binOp, eqGuard, Op.intCmp, e], rfl⟩⟩
theorem VOp.neq (hx : opd φ x = some (vint i)) (hy : opd φ y = some (vint j)) : VOp P n φ S ⟨d, .binOp .neq t x y t', ty, ps, af, g⟩ (vbool (decide (i ≠ j))) := ⟨fun c a hf hs => ⟨.bool (decide (i ≠ j)), by
    intro w' hw'
    have h1 : a.eval x = .int .i64 i := hf.opd hx; have h2 : a.eval y = .int .i64 j := hf.opd hy
    have e : (i != j) = decide (i ≠ j) := by by_cases h : i = j <;> simp [h]
    simp [execOp, h1, h2, binOp, eqGuard, Op.intCmp, e], rfl⟩⟩
theorem VOp.beql {p q : Bool} (hx : opd φ x = some (vbool p)) (hy : opd φ y = some (vbool q)) [ht : IsBool P t] : VOp P n φ S ⟨d, .binOp .eql t x y t', ty, ps, af, g⟩ (vbool (p == q)) := ⟨fun c a hf hs => ⟨.bool (p == q), by
    intro w' hw'
    have h1 : a.eval x = .bool p := hf.opd hx; have h2 : a.eval y = .bool q := hf.opd hy
    simp only [execOp, h1, h2, eqGuard, binOp]
    simp [equal_bool ht.u], rfl⟩⟩
theorem VOp.bneq {p q : Bool} (hx : opd φ x = some (vbool p)) (hy : opd φ y = some (vbool q)) [ht : IsBool P t] : VOp P n φ S ⟨d, .binOp .neq t x y t', ty, ps, af, g⟩ (vbool (p != q)) := ⟨fun c a hf hs => ⟨.bool (p != q), by
    intro w' hw'
    have h1 : a.eval x = .bool p := hf.opd hx; have h2 : a.eval y = .bool q := hf.opd hy
    simp only [execOp, h1, h2, eqGuard, binOp]
    simp [equal_bool ht.u, bne], rfl⟩⟩
theorem VOp.eqNil {e k' : TypeId} {b : Option Addr} {lo m : Nat} (hx : opd φ x = some (vlit (.slice b lo m))) (hy : opd φ y = some (vlit (.slice none 0 0))) [ht : IsSl P t e k'] :
    VOp P n φ S ⟨d, .binOp .eql t x y t', ty, ps, af, g⟩ (vbool b.isNone) := ⟨fun c a hf hs => ⟨.bool b.isNone, by
    intro w' hw'
    have h1 : a.eval x = .slice b lo m := hf.opd hx; have h2 : a.eval y = .slice none 0 0 := hf.opd hy
    simp only [execOp, h1, h2, eqGuard, binOp]
    simp [equal_nil ht.u], rfl⟩⟩
theorem VOp.neNil {e k' : TypeId} {b : Option Addr} {lo m : Nat} (hx : opd φ x = some (vlit (.slice b lo m))) (hy : opd φ y = some (vlit (.slice none 0 0))) [ht : IsSl P t e k'] :
    VOp P n φ S ⟨d, .binOp .neq t x y t', ty, ps, af, g⟩ (vbool (!b.isNone)) := ⟨fun c a hf hs => ⟨.bool (!b.isNone), by
    intro w' hw'
    have h1 : a.eval x = .slice b lo m := hf.opd hx; have h2 : a.eval y = .slice none 0 0 := hf.opd hy
    simp only [execOp, h1, h2, eqGuard, binOp]
    simp [equal_nil ht.u], rfl⟩⟩
end bin

theorem VOp.not {t : TypeId} {x : Operand} {b : Bool} (hx : opd φ x = some (vbool b)) : VOp P n φ S ⟨d, .unOp .not t x, ty, ps, af, g⟩ (vbool (!b)) := ⟨fun c a hf hs => ⟨.bool (!b), by intro w' hw'; have h1 : a.eval x = .bool b := hf.opd hx; simp [execOp, h1, Op.unary], rfl⟩⟩
theorem VOp.neg {t : TypeId} {x : Operand} {i : Int} (hx : opd φ x = some (vint i)) (h : InR (-i)) : VOp P n φ S ⟨d, .unOp .neg t x, ty, ps, af, g⟩ (vint (-i)) := ⟨fun c a hf hs => ⟨.int .i64 (-i), by intro w' hw'; have h1 : a.eval x = .int .i64 i := hf.opd hx; simp [execOp, h1, Op.unary, Op.intArith, h.wrap], rfl⟩⟩

theorem VPs.get {c : Ctx} {qs : List VP} {vs : List Value} (h : VPs c qs vs) : ∀ (i : Nat) (p : VP), qs[i]? = some p → ∃ v, vs[i]? = some v ∧ p.p c v := by
  induction h with
  | nil => intro i p h; simp at h
  | cons hp _ ih =>
    intro i p h
    cases i with
    | zero => simp only [List.getElem?_cons_zero, Option.some.injEq] at h; subst h; exact ⟨_, rfl, hp⟩
    | succ i => exact ih i p (by simpa using h)

theorem VOp.extract {x : Operand} {i : Nat} {qs : List VP} {p : VP} (hx : opd φ x = some (vtup qs)) (hi : qs[i]? = some p) : VOp P n φ S ⟨d, .extract x i, ty, ps, af, g⟩ p := by
    refine ⟨fun c a hf hs => ?_⟩
    obtain ⟨vs, h1, h2⟩ := hf.opd hx
    obtain ⟨v, h3, h4⟩ := h2.get i p hi
    exact ⟨v, by intro w' hw'; simp [execOp, h1, Instr.extract, h3], h4⟩

end
end Go.Proofs.YtemfpennomelaaaDoor

/- Memory: frozen slices and structs, owned variables and arrays; addresses, loads, stores. Proved for every program P; conditions: indices in bounds. -/
namespace Go.Proofs.YtemfpennomelaaaDoor
open Go
set_option linter.unusedVariables false

class IsVar (P : Program) (t : TypeId) (g : outParam Bool) (k : outParam Nat) : Prop where
  g : ∀ w, (isAgg t).run P w = .ok g w
  s : ∀ w, (sizeOf t).run P w = .ok k w
class IsFld (P : Program) (t i : Nat) (o k : outParam Nat) : Prop where
  u : ∃ fs : Array Field, ∃ f, P.underlying t = some (.struct fs) ∧ fs[i]? = some f ∧ f.offset = o ∧ (∀ w, (sizeOf f.type).run P w = .ok k w) ∧ k ≠ 0
class IsStr (P : Program) (t : TypeId) : Prop where
  u : P.underlying t = some .string
class IsZero (P : Program) (t : TypeId) (z : outParam Value) : Prop where
  z : ∀ w, (zeroValue t).run P w = .ok z w
class IsBytes (P : Program) (t : TypeId) (b : outParam Nat) : Prop where
  b : ∃ i : TypeInfo, (∀ w, (typeInfo t).run P w = .ok i w) ∧ i.bytes = b

/-- values that fill one cell -/
class One (p : VP) : Prop where
  one : ∀ c v, p.p c v → v.oneCell' = true
instance {k : IntKind} {n : Int} : One (vlit (.int k n)) := ⟨fun _ _ h => by cases h; rfl⟩
instance {b : Bool} : One (vlit (.bool b)) := ⟨fun _ _ h => by cases h; rfl⟩
instance {s : ByteArray} : One (vlit (.string s)) := ⟨fun _ _ h => by cases h; rfl⟩
instance {a : Option Addr} : One (vlit (.pointer a)) := ⟨fun _ _ h => by cases h; rfl⟩
instance {a : Option Addr} {l m : Nat} : One (vlit (.slice a l m)) := ⟨fun _ _ h => by cases h; rfl⟩
instance {r : Option Nat} : One (vlit (.map r)) := ⟨fun _ _ h => by cases h; rfl⟩
instance {f : Fn} {x y : Array Value} : One (vlit (.func f x y)) := ⟨fun _ _ h => by cases h; rfl⟩
instance : One (vlit .nilFunc) := ⟨fun _ _ h => by cases h; rfl⟩

class Ones (ps : List VP) : Prop where
  one : ∀ c v, ∀ r ∈ ps, r.p c v → v.oneCell' = true
instance : Ones [] := ⟨fun _ _ _ h => by cases h⟩
instance {p : VP} {ps : List VP} [hp : One p] [hs : Ones ps] : Ones (p :: ps) := ⟨fun c v r hr h => by
  rcases List.mem_cons.1 hr with rfl | hr
  · exact hp.one c v h
  · exact hs.one c v r hr h⟩
/-- elements whose parts fill one cell each -/
class OneR {α : Type} (r : α → List VP) : Prop where
  one : ∀ c v, ∀ y, ∀ p ∈ r y, p.p c v → v.oneCell' = true
instance {α : Type} {r : α → List VP} [h : ∀ x, Ones (r x)] : OneR r := ⟨fun c v y p hp hv => (h y).one c v p hp hv⟩

theorem cell_same {w w' : World} {b m : Nat} (h : w'.heap[b]? = w.heap[b]?) : w'.cell? ⟨b, m, none⟩ = w.cell? ⟨b, m, none⟩ := by simp [World.cell?, h]

/-- the cells of block b from o on meet ps -/
def cellsAt (c : Ctx) (b o : Nat) (ps : List VP) : Prop := ∀ j p, ps[j]? = some p → ∃ v, c.w.cell? ⟨b, o + j, none⟩ = some v ∧ p.p c v

theorem cellsAt.le {c c' : Ctx} {b o : Nat} {ps : List VP} (hl : c.leV c') (hb : c'.w.heap[b]? = c.w.heap[b]?) (h : cellsAt c b o ps) : cellsAt c' b o ps := fun j p hp => by
  obtain ⟨v, h1, h2⟩ := h j p hp
  exact ⟨v, (cell_same hb).trans h1, p.mono hl h2⟩

theorem cellsAt.drop {c : Ctx} {b o : Nat} {ps : List VP} (h : cellsAt c b o ps) (m k : Nat) : cellsAt c b (o + m) ((ps.drop m).take k) := fun j p hp => by
  rw [List.getElem?_take] at hp
  split at hp
  · rw [List.getElem?_drop] at hp
    obtain ⟨v, h1, h2⟩ := h _ p hp
    exact ⟨v, by rw [← h1, Nat.add_assoc], h2⟩
  · cases hp

/-- a pointer to frozen cells -/
def vfp (ps : List VP) : VP := ⟨fun c v => ∃ b o, v = .pointer (some ⟨b, o, none⟩) ∧ c.F b ∧ cellsAt c b o ps,
  fun {_ _ _} hl h => by obtain ⟨b, o, h1, h2, h3⟩ := h; exact ⟨b, o, h1, hl.fr b h2, h3.le hl (hl.heap b h2)⟩⟩
instance {ps : List VP} : One (vfp ps) := ⟨fun _ _ h => by obtain ⟨_, _, rfl, _⟩ := h; rfl⟩

/-- elements of k cells each, from o on -/
def Elems (c : Ctx) (b o k : Nat) {α : Type} (r : α → List VP) (xs : List α) : Prop :=
  ∀ (i : Nat) (x : α), xs[i]? = some x → (r x).length = k ∧ cellsAt c b (o + i * k) (r x)

theorem Elems.le {c c' : Ctx} {b o k : Nat} {α : Type} {r : α → List VP} {xs : List α} (hl : c.leV c') (hb : c'.w.heap[b]? = c.w.heap[b]?) (h : Elems c b o k r xs) : Elems c' b o k r xs :=
  fun i x hx => ⟨(h i x hx).1, (h i x hx).2.le hl hb⟩

/-- a frozen slice (nil if empty, perhaps) that reads as xs -/
def vsl (k : Nat) {α : Type} (r : α → List VP) (xs : List α) : VP :=
  ⟨fun c v => ∃ ao len cap, v = .slice ao len cap ∧ len = xs.length ∧ (xs = [] ∨ ∃ b o, ao = some ⟨b, o, none⟩ ∧ c.F b ∧ xs.length ≤ cap ∧ Elems c b o k r xs),
   fun {_ _ _} hl h => by
    obtain ⟨ao, len, cap, h1, h2, h3⟩ := h
    refine ⟨ao, len, cap, h1, h2, h3.imp id ?_⟩
    rintro ⟨b, o, h4, h5, hcp, h6⟩
    exact ⟨b, o, h4, hl.fr b h5, hcp, h6.le hl (hl.heap b h5)⟩⟩
instance {k : Nat} {α : Type} {r : α → List VP} {xs : List α} : One (vsl k r xs) := ⟨fun _ _ h => by obtain ⟨_, _, _, rfl, _⟩ := h; rfl⟩

/-- a struct or array value -/
def vagg (ps : List VP) : VP := ⟨fun c v => ∃ vs, v = .agg vs.toArray ∧ VPs c ps vs, fun {_ _ _} h k => by obtain ⟨vs, h1, h2⟩ := k; exact ⟨vs, h1, h2.mono h⟩⟩

/-- an owned variable of cells -/
def hcells (b : Nat) (ps : List VP) : HP := ⟨fun c fs => fs = [b] ∧ (∃ arr t, c.w.heap[b]? = some (.cells arr t (0, 0)) ∧ arr.size = ps.length) ∧ cellsAt c b 0 ps,
  fun {_ _ _} hl hk h => by
    obtain ⟨rfl, ⟨arr, t, h2, h3⟩, h4⟩ := h
    have := hk b (by simp)
    exact ⟨rfl, ⟨arr, t, this.trans h2, h3⟩, h4.le hl this⟩⟩

/-- an owned array of sz cells whose first elements are xs -/
class Pos (k : Nat) : Prop where
  h : 0 < k
instance {k : Nat} : Pos (k + 1) := ⟨Nat.succ_pos k⟩
theorem cap_of {k len cap : Nat} [hk : Pos k] (h : len * k ≤ cap * k) : len ≤ cap := Nat.le_of_mul_le_mul_right h hk.h
def harr (b k : Nat) {α : Type} (r : α → List VP) (xs : List α) (sz : Nat) : HP :=
  ⟨fun c fs => fs = [b] ∧ (∃ arr t, c.w.heap[b]? = some (.cells arr t (0, 0)) ∧ arr.size = sz ∧ xs.length * k ≤ sz) ∧ Elems c b 0 k r xs,
  fun {_ _ _} hl hk h => by
    obtain ⟨rfl, ⟨arr, t, h2, h3⟩, h4⟩ := h
    have := hk b (by simp)
    exact ⟨rfl, ⟨arr, t, this.trans h2, h3⟩, h4.le hl this⟩⟩

@[reducible] def vptr (b o : Nat) : VP := vlit (.pointer (some ⟨b, o, none⟩))
/-- a pointer to cell o of element i of an array of k cells an element -/
def velt (b k i o : Nat) : VP := vlit (.pointer (some ⟨b, i * k + o, none⟩))
/-- an owned slice, from the head of its block -/
@[reducible] def vsb (b len cap : Nat) : VP := vlit (.slice (some ⟨b, 0, none⟩) len cap)

/-- a chunk of the state -/
inductive Has : List HP → HP → Prop
  | head {h : HP} {S : List HP} : Has (h :: S) h
  | tail {h x : HP} {S : List HP} : Has S h → Has (x :: S) h

theorem Has.get {c : Ctx} {S : List HP} {h : HP} (hh : Has S h) : ∀ {fs : List (List Nat)}, All c S fs → ∃ f ∈ fs, h.p c f := by
  induction hh with
  | head => intro fs ha; cases ha with | cons hp _ => exact ⟨_, by simp, hp⟩
  | tail _ ih => intro fs ha; cases ha with | cons _ hr => obtain ⟨f, h1, h2⟩ := ih hr; exact ⟨f, by simp [h1], h2⟩

section
variable {P : Program} {n : Nat} {φ : Slots} {S : List HP} {d : Option Tmp} {ty : TypeId} {ps : String} {af : Array Edge} {g : Option (Nat × Bool)}

theorem add_zero_addr (b o m : Nat) : (⟨b, o, none⟩ : Addr).add m = ⟨b, o + m, none⟩ := by
  unfold Addr.add; split <;> simp_all

/-! ### addresses -/
theorem VOp.indexSl {t e k : Nat} [ht : IsSl P t e k] {α : Type} {r : α → List VP} {xs : List α} {x y : Operand} {i : Int} (hx : opd φ x = some (vsl k r xs)) (hy : opd φ y = some (vint i))
    (h0 : 0 ≤ i) (hi : i.toNat < xs.length) : VOp P n φ S ⟨d, .indexAddr t x y, ty, ps, af, g⟩ (vfp (r (xs[i.toNat]'hi))) := by
  refine ⟨fun c a hf hs => ?_⟩
  obtain ⟨ao, len, cap, h1, h2, h3⟩ := hf.opd hx
  have hy' : a.eval y = .int .i64 i := hf.opd hy
  rcases h3 with rfl | ⟨b, o, rfl, hF, hcp, hE⟩
  · simp at hi
  · refine ⟨.pointer (some ⟨b, o + i.toNat * k, none⟩), ?_, b, o + i.toNat * k, rfl, hF, (hE i.toNat _ (List.getElem?_eq_getElem hi)).2⟩
    have hlt : i < (len : Int) := by omega
    intro w' hw'
    simp [execOp, h1, hy', Instr.indexAt, asIntOf, run_underlying ht.u, h0, hlt, ht.s, add_zero_addr]

theorem VOp.indexSlN {t e k : Nat} [ht : IsSl P t e k] {α : Type} {r : α → List VP} {xs : List α} {x y : Operand} {i : Nat} (hx : opd φ x = some (vsl k r xs)) (hy : opd φ y = some (vint (i : Int)))
    (hi : i < xs.length) : VOp P n φ S ⟨d, .indexAddr t x y, ty, ps, af, g⟩ (vfp (r (xs[i]'hi))) :=
  VOp.indexSl hx hy (by omega) (by simpa using hi)

theorem VOp.indexOwn {t e k : Nat} [ht : IsSl P t e k] {x y : Operand} {b len cap : Nat} {i : Int} (hx : opd φ x = some (vsb b len cap)) (hy : opd φ y = some (vint i))
    (h0 : 0 ≤ i) (hi : i.toNat < len) : VOp P n φ S ⟨d, .indexAddr t x y, ty, ps, af, g⟩ (velt b k i.toNat 0) := by
  refine ⟨fun c a hf hs => ?_⟩
  have h1 : a.eval x = _ := hf.opd hx
  have hy' : a.eval y = .int .i64 i := hf.opd hy
  have hlt : i < (len : Int) := by omega
  refine ⟨.pointer (some ⟨b, i.toNat * k + 0, none⟩), ?_, rfl⟩
  intro w' hw'
  simp [execOp, h1, hy', Instr.indexAt, asIntOf, run_underlying ht.u, h0, hlt, ht.s, add_zero_addr]

theorem VOp.indexOwnN {t e k : Nat} [ht : IsSl P t e k] {x y : Operand} {b len cap : Nat} {i : Nat} (hx : opd φ x = some (vsb b len cap)) (hy : opd φ y = some (vint (i : Int)))
    (hi : i < len) : VOp P n φ S ⟨d, .indexAddr t x y, ty, ps, af, g⟩ (velt b k i 0) := by
  have := VOp.indexOwn (P := P) (n := n) (φ := φ) (S := S) (d := d) (ty := ty) (ps := ps) (af := af) (g := g) (t := t) (e := e) (k := k) hx hy (by omega) (by simpa using hi)
  simpa using this

theorem VOp.fieldFp {t i o k : Nat} [ht : IsFld P t i o k] {x : Operand} {qs : List VP} (hx : opd φ x = some (vfp qs)) :
    VOp P n φ S ⟨d, .fieldAddr t x i, ty, ps, af, g⟩ (vfp ((qs.drop o).take k)) := by
  refine ⟨fun c a hf hs => ?_⟩
  obtain ⟨b, o', h1, h2, h3⟩ := hf.opd hx
  obtain ⟨fs, f, hu, hfi, ho, hsz, hk⟩ := ht.u
  refine ⟨.pointer (some ⟨b, o' + o, none⟩), ?_, b, o' + o, rfl, h2, h3.drop o k⟩
  intro w' hw'
  simp [execOp, h1, Instr.fieldAt, run_underlying hu, hfi, Instr.sureAddr, fieldPlace, hsz, hk, ho, add_zero_addr]

theorem VOp.fieldPtr {t i o k : Nat} [ht : IsFld P t i o k] {x : Operand} {b o' : Nat} (hx : opd φ x = some (vptr b o')) :
    VOp P n φ S ⟨d, .fieldAddr t x i, ty, ps, af, g⟩ (vptr b (o' + o)) := by
  refine ⟨fun c a hf hs => ?_⟩
  have h1 : a.eval x = _ := hf.opd hx
  obtain ⟨fs, f, hu, hfi, ho, hsz, hk⟩ := ht.u
  refine ⟨.pointer (some ⟨b, o' + o, none⟩), ?_, rfl⟩
  intro w' hw'
  simp [execOp, h1, Instr.fieldAt, run_underlying hu, hfi, Instr.sureAddr, fieldPlace, hsz, hk, ho, add_zero_addr]

theorem VOp.fieldElt {t i o k : Nat} [ht : IsFld P t i o k] {x : Operand} {b k' j o' : Nat} (hx : opd φ x = some (velt b k' j o')) :
    VOp P n φ S ⟨d, .fieldAddr t x i, ty, ps, af, g⟩ (velt b k' j (o' + o)) := by
  refine ⟨fun c a hf hs => ?_⟩
  have h1 : a.eval x = .pointer (some ⟨b, j * k' + o', none⟩) := hf.opd hx
  obtain ⟨fs, f, hu, hfi, ho, hsz, hk⟩ := ht.u
  refine ⟨.pointer (some ⟨b, j * k' + (o' + o), none⟩), ?_, rfl⟩
  intro w' hw'
  simp [execOp, h1, Instr.fieldAt, run_underlying hu, hfi, Instr.sureAddr, fieldPlace, hsz, hk, ho, add_zero_addr, Nat.add_assoc]

/-! ### loads -/
theorem run_loads {c : Ctx} {b o : Nat} {qs : List VP} (h : cellsAt c b o qs) : ∃ vs, VPs c qs vs ∧ ∀ w', Same c.w w' → (loadCells ⟨b, o, none⟩ qs.length).run P w' = .ok vs.toArray w' := by
  have key : ∀ (m : Nat) (qs : List VP), cellsAt c b (o + m) qs → ∃ vs, VPs c qs vs ∧ ∀ j v, vs[j]? = some v → c.w.cell? ⟨b, o + (m + j), none⟩ = some v := by
    intro m qs
    induction qs generalizing m with
    | nil => intro _; exact ⟨[], .nil, by simp⟩
    | cons q qs ih =>
      intro hq
      obtain ⟨v, h1, h2⟩ := hq 0 q rfl
      obtain ⟨vs, h3, h4⟩ := ih (m + 1) (fun j p hp => by
        obtain ⟨v, h5, h6⟩ := hq (j + 1) p (by simpa using hp)
        exact ⟨v, by rw [← h5]; congr 2; omega, h6⟩)
      refine ⟨v :: vs, .cons h2 h3, fun j u hu => ?_⟩
      cases j with
      | zero => simp only [List.getElem?_cons_zero, Option.some.injEq] at hu; subst hu; simpa using h1
      | succ j =>
        have := h4 j u (by simpa using hu)
        rw [← this]; congr 2; omega
  obtain ⟨vs, h1, h2⟩ := key 0 qs (by simpa using h)
  refine ⟨vs, h1, fun w' hw' => ?_⟩
  rw [h1.length]
  exact run_loadCells_list w' _ vs (fun j v hv => hw'.cell (by rw [add_zero_addr, ← h2 j v hv]; congr 2; omega))

/-- what a load of a variable of type t gives of cells that meet qs -/
theorem run_var {t : Nat} {gg : Bool} {k : Nat} (ht : IsVar P t gg k) {c : Ctx} {b o : Nat} {qs : List VP} (hl : qs.length = k) (h : cellsAt c b o qs) (hg : gg = true ∨ ∃ q, qs = [q]) :
    ∃ v, (∀ w', Same c.w w' → (loadVar t ⟨b, o, none⟩).run P w' = .ok v w') ∧ (if gg then vagg qs else qs.headD vany).p c v := by
  cases hgg : gg with
  | true =>
    subst hgg
    obtain ⟨vs, h1, h2⟩ := run_loads (P := P) h
    refine ⟨.agg vs.toArray, fun w' hw' => ?_, vs, rfl, h1⟩
    subst hl
    simp [loadVar, ht.g, ht.s, h2 w' hw']
  | false =>
    subst hgg
    obtain ⟨q, rfl⟩ := hg.resolve_left (by simp)
    obtain ⟨v, h1, h2⟩ := h 0 q rfl
    exact ⟨v, fun w' hw' => by simp only [Nat.add_zero] at h1; simp [loadVar, ht.g, hw'.cell h1], h2⟩

theorem VOp.loadFp {t : Nat} {x : Operand} {q : VP} {k : Nat} [ht : IsVar P t false k] (hx : opd φ x = some (vfp [q])) : VOp P n φ S ⟨d, .load t x, ty, ps, af, g⟩ q := by
  refine ⟨fun c a hf hs => ?_⟩
  obtain ⟨b, o, h1, h2, h3⟩ := hf.opd hx
  obtain ⟨v, h4, h5⟩ := h3 0 q rfl
  simp only [Nat.add_zero] at h4
  exact ⟨v, by
    intro w' hw'
    have h4 := hw'.cell h4
    simp [execOp, h1, Instr.loadAt, Instr.sureAddr, loadVar, ht.g, h4], h5⟩
theorem VOp.loadFpAgg {t : Nat} {x : Operand} {qs : List VP} {k : Nat} [ht : IsVar P t true k] (hx : opd φ x = some (vfp qs)) (hl : qs.length = k) : VOp P n φ S ⟨d, .load t x, ty, ps, af, g⟩ (vagg qs) := by
  refine ⟨fun c a hf hs => ?_⟩
  obtain ⟨b, o, h1, h2, h3⟩ := hf.opd hx
  obtain ⟨v, h4, h5⟩ := run_var ht hl h3 (.inl rfl)
  exact ⟨v, by
    intro w' hw'
    have h4 := h4 w' hw'
    simp [execOp, h1, Instr.loadAt, Instr.sureAddr, h4], h5⟩

theorem VOp.loadPtr {t : Nat} {x : Operand} {b o : Nat} {qs : List VP} {q : VP} {k : Nat} [ht : IsVar P t false k] (hx : opd φ x = some (vptr b o)) (hh : Has S (hcells b qs)) (hq : qs[o]? = some q) :
    VOp P n φ S ⟨d, .load t x, ty, ps, af, g⟩ q := by
  refine ⟨fun c a hf ⟨fs, hs⟩ => ?_⟩
  have h1 : a.eval x = _ := hf.opd hx
  obtain ⟨f, _, _, _, h3⟩ := hh.get hs.all
  obtain ⟨v, h4, h5⟩ := h3 o q hq
  simp only [Nat.zero_add] at h4
  exact ⟨v, by
    intro w' hw'
    have h4 := hw'.cell h4
    simp [execOp, h1, Instr.loadAt, Instr.sureAddr, loadVar, ht.g, h4], h5⟩
theorem VOp.loadPtrAgg {t : Nat} {x : Operand} {b o : Nat} {qs : List VP} {k : Nat} [ht : IsVar P t true k] (hx : opd φ x = some (vptr b o)) (hh : Has S (hcells b qs)) (hl : ((qs.drop o).take k).length = k) :
    VOp P n φ S ⟨d, .load t x, ty, ps, af, g⟩ (vagg ((qs.drop o).take k)) := by
  refine ⟨fun c a hf ⟨fs, hs⟩ => ?_⟩
  have h1 : a.eval x = _ := hf.opd hx
  obtain ⟨f, _, _, _, h3⟩ := hh.get hs.all
  have h3' := h3.drop o k
  rw [Nat.zero_add] at h3'
  obtain ⟨v, h4, h5⟩ := run_var ht hl h3' (.inl rfl)
  exact ⟨v, by
    intro w' hw'
    have h4 := h4 w' hw'
    simp [execOp, h1, Instr.loadAt, Instr.sureAddr, h4], h5⟩

theorem VOp.loadElt {t : Nat} {x : Operand} {b k i o : Nat} {α : Type} {r : α → List VP} {xs : List α} {sz : Nat} {q : VP} {k' : Nat} [ht : IsVar P t false k'] (hx : opd φ x = some (velt b k i o)) (hh : Has S (harr b k r xs sz))
    (hi : i < xs.length) (hq : (r (xs[i]'hi))[o]? = some q) : VOp P n φ S ⟨d, .load t x, ty, ps, af, g⟩ q := by
  refine ⟨fun c a hf ⟨fs, hs⟩ => ?_⟩
  have h1 : a.eval x = .pointer (some ⟨b, i * k + o, none⟩) := hf.opd hx
  obtain ⟨f, _, _, _, h3⟩ := hh.get hs.all
  obtain ⟨v, h4, h5⟩ := (h3 i _ (List.getElem?_eq_getElem hi)).2 o q hq
  simp only [Nat.zero_add] at h4
  exact ⟨v, by
    intro w' hw'
    have h4 := hw'.cell h4
    simp [execOp, h1, Instr.loadAt, Instr.sureAddr, loadVar, ht.g, h4], h5⟩
theorem VOp.loadEltAgg {t : Nat} {x : Operand} {b k i : Nat} {α : Type} {r : α → List VP} {xs : List α} {sz : Nat} {k' : Nat} [ht : IsVar P t true k'] (hx : opd φ x = some (velt b k i 0)) (hh : Has S (harr b k r xs sz))
    (hi : i < xs.length) (hk : k = k') : VOp P n φ S ⟨d, .load t x, ty, ps, af, g⟩ (vagg (r (xs[i]'hi))) := by
  refine ⟨fun c a hf ⟨fs, hs⟩ => ?_⟩
  have h1 : a.eval x = .pointer (some ⟨b, i * k + 0, none⟩) := hf.opd hx
  obtain ⟨f, _, _, _, h3⟩ := hh.get hs.all
  have h3' := h3 i _ (List.getElem?_eq_getElem hi)
  rw [Nat.zero_add] at h3'
  obtain ⟨v, h4, h5⟩ := run_var ht (h3'.1.trans hk) h3'.2 (.inl rfl)
  exact ⟨v, by
    intro w' hw'
    have h4 := h4 w' hw'
    simp [execOp, h1, Instr.loadAt, Instr.sureAddr, h4], h5⟩

/-! ### lengths -/
theorem VOp.lenSl {t e k' : TypeId} [ht : IsSl P t e k'] {k : Nat} {α : Type} {r : α → List VP} {xs : List α} {x : Operand} (hx : opd φ x = some (vsl k r xs)) :
    VOp P n φ S ⟨d, .call ⟨.builtin .len, #[x], #[t]⟩, ty, ps, af, g⟩ (vint (xs.length : Int)) := by
  refine ⟨fun c a hf hs => ?_⟩
  obtain ⟨ao, len, cap, h1, rfl, _⟩ := hf.opd hx
  exact ⟨.int .i64 (xs.length : Int), by intro w' hw'; simp [execOp, resolve, invoke, builtin, Builtin.len_, h1, goInt, run_underlying ht.u], rfl⟩
theorem VOp.lenOwn {t e k' : TypeId} [ht : IsSl P t e k'] {ao : Option Addr} {len cap : Nat} {x : Operand} (hx : opd φ x = some (vlit (.slice ao len cap))) :
    VOp P n φ S ⟨d, .call ⟨.builtin .len, #[x], #[t]⟩, ty, ps, af, g⟩ (vint (len : Int)) := by
  refine ⟨fun c a hf hs => ?_⟩
  have h1 : a.eval x = _ := hf.opd hx
  exact ⟨.int .i64 (len : Int), by intro w' hw'; simp [execOp, resolve, invoke, builtin, Builtin.len_, h1, goInt, run_underlying ht.u], rfl⟩
theorem VOp.lenStr {t : TypeId} [ht : IsStr P t] {s : ByteArray} {x : Operand} (hx : opd φ x = some (vlit (.string s))) :
    VOp P n φ S ⟨d, .call ⟨.builtin .len, #[x], #[t]⟩, ty, ps, af, g⟩ (vint (s.size : Int)) := by
  refine ⟨fun c a hf hs => ?_⟩
  have h1 : a.eval x = _ := hf.opd hx
  exact ⟨.int .i64 (s.size : Int), by intro w' hw'; simp [execOp, resolve, invoke, builtin, Builtin.len_, h1, goInt, run_underlying ht.u], rfl⟩

theorem VOp.nilCheck {x : Operand} {a0 : Addr} (hx : opd φ x = some (vlit (.pointer (some a0)))) : VOp P n φ S ⟨d, .nilCheck x, ty, ps, af, g⟩ (vlit (.pointer (some a0))) := by
  refine ⟨fun c a hf hs => ?_⟩
  have h1 : a.eval x = _ := hf.opd hx
  exact ⟨_, by intro w' hw'; simp [execOp, h1], rfl⟩
end
end Go.Proofs.YtemfpennomelaaaDoor

/- Operations that make memory or write owned memory: variables, stores, slices, append; freezing. Proved for every program P; conditions: indices in bounds, sizes far below the address space. -/
namespace Go.Proofs.YtemfpennomelaaaDoor
open Go
set_option linter.unusedVariables false

/-- chunk h of the state is replaced by h' -/
inductive Upd : List HP → HP → HP → List HP → Prop
  | head {h h' : HP} {S : List HP} : Upd (h :: S) h h' (h' :: S)
  | tail {h h' x : HP} {S S' : List HP} : Upd S h h' S' → Upd (x :: S) h h' (x :: S')

/-- chunk h is taken out -/
inductive Rem : List HP → HP → List HP → Prop
  | head {h : HP} {S : List HP} : Rem (h :: S) h S
  | tail {h x : HP} {S S' : List HP} : Rem S h S' → Rem (x :: S) h (x :: S')

/-- chunk h in its place among the chunks -/
inductive Plc : List HP → HP → (HP → List HP) → Prop
  | head {h : HP} {S : List HP} : Plc (h :: S) h (fun x => x :: S)
  | tail {h y : HP} {S : List HP} {C : HP → List HP} : Plc S h C → Plc (y :: S) h (fun x => y :: C x)
theorem Plc.upd {S : List HP} {h : HP} {C : HP → List HP} (p : Plc S h C) (h' : HP) : Upd S h h' (C h') := by
  induction p with
  | head => exact .head
  | tail _ ih => exact .tail ih

theorem Upd.has {S S' : List HP} {h h' : HP} (u : Upd S h h' S') : Has S h := by
  induction u with
  | head => exact .head
  | tail _ ih => exact .tail ih

theorem Upd.split {S S' : List HP} {h h' : HP} (u : Upd S h h' S') : ∃ A B, S = A ++ h :: B ∧ S' = A ++ h' :: B := by
  induction u with
  | @head h h' S => exact ⟨[], S, rfl, rfl⟩
  | @tail h h' x S S' _ ih => obtain ⟨A, B, rfl, rfl⟩ := ih; exact ⟨x :: A, B, rfl, rfl⟩
theorem Rem.split {S S' : List HP} {h : HP} (u : Rem S h S') : ∃ A B, S = A ++ h :: B ∧ S' = A ++ B := by
  induction u with
  | @head h S => exact ⟨[], S, rfl, rfl⟩
  | @tail h x S S' _ ih => obtain ⟨A, B, rfl, rfl⟩ := ih; exact ⟨x :: A, B, rfl, rfl⟩

theorem SHf.middle {c : Ctx} {A B : List HP} {h : HP} {fs : List (List Nat)} (hs : SHf c (A ++ h :: B) fs) : ∃ f1 f f2, fs = f1 ++ f :: f2 ∧ All c A f1 ∧ h.p c f ∧ All c B f2 := by
  obtain ⟨f1, g, rfl, h1, h2⟩ := hs.all.split
  cases h2 with
  | @cons _ f _ f2 hp hr => exact ⟨f1, f, f2, rfl, h1, hp, hr⟩

/-- chunk h, whose footprint is f, is replaced by h' with the footprint f': what else is owned lies elsewhere -/
theorem SHf.replace {c c' : Ctx} {A B : List HP} {h h' : HP} {f1 f2 : List (List Nat)} {f f' : List Nat} (hl : c.le c') (hs : SHf c (A ++ h :: B) (f1 ++ f :: f2)) (h1 : All c A f1) (h2 : All c B f2)
    (hF : ∀ b, c'.F b ↔ c.F b) (hk : ∀ b, b < c.w.heap.size → b ∉ f → c'.w.heap[b]? = c.w.heap[b]?) (hf' : ∀ b ∈ f', (b ∈ f ∨ c.w.heap.size ≤ b) ∧ b < c'.w.heap.size) (hn : f'.Nodup) (hp : h'.p c' f') :
    SHf c' (A ++ h' :: B) (f1 ++ f' :: f2) := by
  obtain ⟨_, hnd, hown, hfro, hdis⟩ := hs
  have hU : ∀ b, c'.U b ↔ c.U b := fun b => by rw [hl.un]
  simp only [List.flatten_append, List.flatten_cons, List.nodup_append, List.mem_append] at hnd hown
  obtain ⟨hn1, ⟨hnf, hn2, hd2⟩, hd1⟩ := hnd
  have k1 : ∀ b ∈ f1.flatten, c'.w.heap[b]? = c.w.heap[b]? := fun b hb => hk b (hown b (.inl hb)).2.2 (fun hbf => hd1 b hb b (.inl hbf) rfl)
  have k2 : ∀ b ∈ f2.flatten, c'.w.heap[b]? = c.w.heap[b]? := fun b hb => hk b (hown b (.inr (.inr hb))).2.2 (fun hbf => hd2 b hbf b hb rfl)
  refine ⟨(h1.keep hl.v k1).append (.cons hp (h2.keep hl.v k2)), ?_, ?_, fun b hb => Nat.lt_of_lt_of_le (hfro b (hb.imp (hF b).1 (hU b).1)) hl.size, fun b hb hu => hdis b ((hF b).1 hb) ((hU b).1 hu)⟩
  · simp only [List.flatten_append, List.flatten_cons, List.nodup_append, List.mem_append]
    refine ⟨hn1, ⟨hn, hn2, ?_⟩, ?_⟩
    · rintro x hx y hy rfl
      rcases (hf' x hx).1 with h | h
      · exact hd2 x h x hy rfl
      · have := (hown x (.inr (.inr hy))).2.2; omega
    · rintro x hx y hy rfl
      rcases hy with hy | hy
      · rcases (hf' x hy).1 with h | h
        · exact hd1 x hx x (.inl h) rfl
        · have := (hown x (.inl hx)).2.2; omega
      · exact hd1 x hx x (.inr hy) rfl
  · intro b hb
    simp only [List.flatten_append, List.flatten_cons, List.mem_append] at hb
    have old : ∀ b, (¬ c.F b ∧ ¬ c.U b ∧ b < c.w.heap.size) → (¬ c'.F b ∧ ¬ c'.U b ∧ b < c'.w.heap.size) := fun b h =>
      ⟨fun k => h.1 ((hF b).1 k), fun k => h.2.1 ((hU b).1 k), Nat.lt_of_lt_of_le h.2.2 hl.size⟩
    rcases hb with hb | hb | hb
    · exact old b (hown b (.inl hb))
    · rcases (hf' b hb).1 with h' | h'
      · exact old b (hown b (.inr (.inl h')))
      · exact ⟨fun h => by have := hfro b (.inl ((hF b).1 h)); omega, fun h => by have := hfro b (.inr ((hU b).1 h)); omega, (hf' b hb).2⟩
    · exact old b (hown b (.inr (.inr hb)))

/-- a new chunk in new blocks -/
theorem SHf.add {c c' : Ctx} {S : List HP} {h : HP} {fs : List (List Nat)} {f : List Nat} (hl : c.le c') (hs : SHf c S fs) (hF : ∀ b, c'.F b ↔ c.F b)
    (hk : ∀ b, b < c.w.heap.size → c'.w.heap[b]? = c.w.heap[b]?) (hf : ∀ b ∈ f, c.w.heap.size ≤ b ∧ b < c'.w.heap.size) (hn : f.Nodup) (hp : h.p c' f) : SHf c' (h :: S) (f :: fs) := by
  obtain ⟨ha, hnd, hown, hfro, hdis⟩ := hs
  have hU : ∀ b, c'.U b ↔ c.U b := fun b => by rw [hl.un]
  refine ⟨.cons hp (ha.keep hl.v fun b hb => hk b (hown b hb).2.2), ?_, ?_, fun b hb => Nat.lt_of_lt_of_le (hfro b (hb.imp (hF b).1 (hU b).1)) hl.size, fun b hb hu => hdis b ((hF b).1 hb) ((hU b).1 hu)⟩
  · simp only [List.flatten_cons, List.nodup_append]
    refine ⟨hn, hnd, ?_⟩
    rintro x hx y hy rfl
    have := (hf x hx).1; have := (hown x hy).2.2; omega
  · intro b hb
    simp only [List.flatten_cons, List.mem_append] at hb
    rcases hb with hb | hb
    · exact ⟨fun h => by have := hfro b (.inl ((hF b).1 h)); have := (hf b hb).1; omega, fun h => by have := hfro b (.inr ((hU b).1 h)); have := (hf b hb).1; omega, (hf b hb).2⟩
    · have := hown b hb; exact ⟨fun h => this.1 ((hF b).1 h), fun h => this.2.1 ((hU b).1 h), Nat.lt_of_lt_of_le this.2.2 hl.size⟩

/-! ### worlds -/
def newW (w : World) (k : Nat) (o : Obj) : World := { w with heap := w.heap.push o, drawn := w.drawn + k }
theorem newW_heap {w : World} {k : Nat} {o : Obj} {b : Nat} (h : b < w.heap.size) : (newW w k o).heap[b]? = w.heap[b]? := by
  simp only [newW, Array.getElem?_push]; rw [if_neg (by omega)]
theorem newW_new {w : World} {k : Nat} {o : Obj} : (newW w k o).heap[w.heap.size]? = some o := by simp [newW]
theorem newW_size {w : World} {k : Nat} {o : Obj} : (newW w k o).heap.size = w.heap.size + 1 := by simp [newW]
theorem newW_le {c : Ctx} {k : Nat} {o : Obj} (hfro : ∀ b, c.F b ∨ c.U b → b < c.w.heap.size) : c.le ⟨c.F, c.U, newW c.w k o⟩ :=
  ⟨fun _ h => h, rfl, fun b hb => newW_heap (hfro b hb), by simp [newW], rfl, rfl, rfl⟩

theorem SH.new {c : Ctx} {S : List HP} {k : Nat} {o : Obj} {h : HP} (hs : SH c S) (hp : c.le ⟨c.F, c.U, newW c.w k o⟩ → h.p ⟨c.F, c.U, newW c.w k o⟩ [c.w.heap.size]) : c.le ⟨c.F, c.U, newW c.w k o⟩ ∧ SH ⟨c.F, c.U, newW c.w k o⟩ (h :: S) := by
  obtain ⟨fs, hs⟩ := hs
  have hl := newW_le (k := k) (o := o) hs.fro
  exact ⟨hl, _ , hs.add hl (fun _ => .rfl) (fun b hb => newW_heap hb) (by simp [newW_size]) (by simp) (hp hl)⟩

theorem cell_row {w : World} {b m : Nat} {arr : Array Value} {t : TypeId} {fr : Nat × Nat} (h : w.heap[b]? = some (.cells arr t fr)) : w.cell? ⟨b, m, none⟩ = arr[m]? := by simp [World.cell?, h]

theorem cellsAt_row {c : Ctx} {b : Nat} {vs : List Value} {t : TypeId} {fr : Nat × Nat} {qs : List VP} (h : c.w.heap[b]? = some (.cells vs.toArray t fr)) (hq : VPs c qs vs) : cellsAt c b 0 qs := fun j p hp => by
  obtain ⟨v, h1, h2⟩ := hq.get j p hp
  exact ⟨v, by rw [cell_row h]; simpa using h1, h2⟩

section
variable {P : Program} {n : Nat} {φ : Slots} {S : List HP} {d : Option Tmp} {ty : TypeId} {ps : String} {af : Array Edge} {g : Option (Nat × Bool)}

theorem one_cells {p : VP} [ho : One p] {c : Ctx} {v : Value} (h : p.p c v) : v.cells = #[v] := by
  have := ho.one c v h
  cases v <;> first | rfl | simp [Value.oneCell'] at this

/-! ### variables -/
theorem EOp.boxOne {t : TypeId} {x : Operand} {p : VP} [One p] (hx : opd φ x = some p) : EOp P n φ S ⟨d, .box t x, ty, ps, af, g⟩ (fun r S' => ∃ b, r = vptr b 0 ∧ S' = hcells b [p] :: S) := by
  refine ⟨fun c a hf hs => ?_⟩
  have hp := hf.opd hx
  obtain ⟨hl, hs'⟩ := hs.new (k := 0) (o := .cells #[a.eval x] t (0, 0)) (h := hcells c.w.heap.size [p]) (fun hl => ⟨rfl, ⟨_, _, newW_new, by simp⟩, cellsAt_row (vs := [a.eval x]) newW_new (.cons (p.mono hl.v hp) .nil)⟩)
  exact ⟨.pointer (some ⟨c.w.heap.size, 0, none⟩), _, c.F, _, _, by simp [execOp, Instr.box, newVar, newRow, one_cells hp]; rfl, hl, rfl, hs', _, rfl, rfl⟩

theorem EOp.boxAgg {t : TypeId} {x : Operand} {qs : List VP} (hx : opd φ x = some (vagg qs)) : EOp P n φ S ⟨d, .box t x, ty, ps, af, g⟩ (fun r S' => ∃ b, r = vptr b 0 ∧ S' = hcells b qs :: S) := by
  refine ⟨fun c a hf hs => ?_⟩
  obtain ⟨vs, h1, h2⟩ := hf.opd hx
  obtain ⟨hl, hs'⟩ := hs.new (k := 0) (o := .cells vs.toArray t (0, 0)) (h := hcells c.w.heap.size qs) (fun hl => ⟨rfl, ⟨_, _, newW_new, by simp [h2.length]⟩, cellsAt_row newW_new (h2.mono hl.v)⟩)
  exact ⟨.pointer (some ⟨c.w.heap.size, 0, none⟩), _, c.F, _, _, by simp [execOp, Instr.box, newVar, newRow, h1, Value.cells]; rfl, hl, rfl, hs', _, rfl, rfl⟩

/-- the cells of a type's zero value -/
class IsNew (P : Program) (t : TypeId) (qs : outParam (List VP)) : Prop where
  z : ∃ z : Value, (∀ w, (zeroValue t).run P w = .ok z w) ∧ ∀ c, VPs c qs z.cells.toList

theorem EOp.alloc {t : TypeId} {qs : List VP} [hz : IsNew P t qs] : EOp P n φ S ⟨d, .alloc t, ty, ps, af, g⟩ (fun r S' => ∃ b, r = vptr b 0 ∧ S' = hcells b qs :: S) := by
  refine ⟨fun c a hf hs => ?_⟩
  obtain ⟨z, h1, h2⟩ := hz.z
  obtain ⟨hl, hs'⟩ := hs.new (k := 0) (o := .cells z.cells.toList.toArray t (0, 0)) (h := hcells c.w.heap.size qs) (fun hl => ⟨rfl, ⟨_, _, newW_new, by have := (h2 c).length; simpa using this.symm⟩, cellsAt_row newW_new (h2 _)⟩)
  exact ⟨.pointer (some ⟨c.w.heap.size, 0, none⟩), _, c.F, _, _, by simp [execOp, Instr.alloc, newVar, newRow, h1]; rfl, hl, rfl, hs', _, rfl, rfl⟩

/-! ### stores -/
def setW (w : World) (b : Nat) (arr : Array Value) (t : TypeId) : World := { w with heap := w.heap.setIfInBounds b (.cells arr t (0, 0)) }
theorem setW_other {w : World} {b : Nat} {arr : Array Value} {t : TypeId} {k : Nat} (h : k ≠ b) : (setW w b arr t).heap[k]? = w.heap[k]? := by
  simp only [setW, Array.getElem?_setIfInBounds_ne (Ne.symm h)]
theorem setW_at {w : World} {b : Nat} {arr : Array Value} {t : TypeId} (h : b < w.heap.size) : (setW w b arr t).heap[b]? = some (.cells arr t (0, 0)) := by
  simp [setW, h]
theorem setW_size {w : World} {b : Nat} {arr : Array Value} {t : TypeId} : (setW w b arr t).heap.size = w.heap.size := by simp [setW]

theorem setRow_eq (w : World) (b : Nat) (arr cur : Array Value) (t : TypeId) (h : w.heap[b]? = some (.cells cur t (0, 0))) : w.setRow b arr = setW w b arr t := by
  have hlt : b < w.heap.size := (Array.getElem?_eq_some_iff.1 h).1
  have hget : w.heap[b] = .cells cur t (0, 0) := (Array.getElem?_eq_some_iff.1 h).2
  unfold World.setRow setW
  congr 1
  apply Array.ext_getElem?
  intro i
  rw [Array.getElem?_modify]
  by_cases e : b = i
  · subst e
    rw [if_pos rfl, h]
    simp [hlt]
  · rw [if_neg e, Array.getElem?_setIfInBounds_ne e]

/-- cells i .. of block b are written: one run of storeCells -/
theorem run_put {w : World} {b o : Nat} {t : TypeId} {arr : Array Value} {vs : List Value} (hb : w.heap[b]? = some (.cells arr t (0, 0))) (hfit : o + vs.length ≤ arr.size) (h1 : ∀ v ∈ vs, v.oneCell' = true) :
    (storeCells ⟨b, o, none⟩ vs).run P w = .ok () (setW w b (arr.toList.take o ++ vs ++ arr.toList.drop (o + vs.length)).toArray t) := by
  have := run_storeCells_at P b o t vs 0 arr w hb (by simpa using hfit) h1
  simp only [Nat.add_zero] at this
  rw [this, setRow_eq w b _ arr t hb]

theorem put_get {arr : Array Value} {vs : List Value} {o j : Nat} (hfit : o + vs.length ≤ arr.size) :
    ((arr.toList.take o ++ vs ++ arr.toList.drop (o + vs.length)).toArray)[j]? = if j < o then arr[j]? else if j < o + vs.length then vs[j - o]? else arr[j]? := by
  simp only [List.getElem?_toArray, List.getElem?_append, List.length_append, List.length_take, Array.length_toList]
  have e : min o arr.size = o := by omega
  rw [e]
  by_cases h1 : j < o
  · rw [if_pos (by omega), if_pos h1, if_pos h1, List.getElem?_take, if_pos h1]; simp
  · rw [if_neg h1]
    by_cases h2 : j < o + vs.length
    · rw [if_pos h2, if_pos h2, if_neg h1]
    · rw [if_neg h2, if_neg h2, List.getElem?_drop]
      have : o + vs.length + (j - (o + vs.length)) = j := by omega
      rw [this]; simp

theorem put_size {arr : Array Value} {vs : List Value} {o : Nat} (hfit : o + vs.length ≤ arr.size) : ((arr.toList.take o ++ vs ++ arr.toList.drop (o + vs.length)).toArray).size = arr.size := by
  simp; omega

/-- what a store writes: a chunk of block b is replaced -/
theorem SH.put {c : Ctx} {S S' : List HP} {h h' : HP} {b : Nat} {arr arr' : Array Value} {t : TypeId} (hs : SH c S) (u : Upd S h h' S') (hb : c.w.heap[b]? = some (.cells arr t (0, 0)))
    (hf : ∀ f, h.p c f → f = [b]) (hp : c.le ⟨c.F, c.U, setW c.w b arr' t⟩ → h'.p ⟨c.F, c.U, setW c.w b arr' t⟩ [b]) : c.le ⟨c.F, c.U, setW c.w b arr' t⟩ ∧ SH ⟨c.F, c.U, setW c.w b arr' t⟩ S' := by
  obtain ⟨fs, hs⟩ := hs
  obtain ⟨A, B, rfl, rfl⟩ := u.split
  obtain ⟨f1, f, f2, rfl, h1, h2, h3⟩ := hs.middle
  obtain rfl := hf f h2
  have hlt : b < c.w.heap.size := (Array.getElem?_eq_some_iff.1 hb).1
  have hnF := hs.own b (by simp)
  have hl : c.le ⟨c.F, c.U, setW c.w b arr' t⟩ := ⟨fun _ h => h, rfl, fun k hk => setW_other (fun e => hk.elim (fun h => hnF.1 (e ▸ h)) (fun h => hnF.2.1 (e ▸ h))), by simp [setW_size], rfl, rfl, rfl⟩
  exact ⟨hl, _, hs.replace hl h1 h3 (fun _ => .rfl) (fun k _ hk => setW_other (by simpa using hk)) (by simp [setW_size, hlt]) (by simp) (hp hl)⟩

theorem UOp.storePtr {t : TypeId} {x y : Operand} {b o : Nat} {gg : Bool} {qs : List VP} {p : VP} {C : HP → List HP} [One p] [ht : IsVar P t gg 1] (hx : opd φ x = some (vptr b o)) (hy : opd φ y = some p)
    (u' : Plc S (hcells b qs) C) (ho : Nat.blt o qs.length = true) : UOp P n φ S ⟨d, .store t x y, ty, ps, af, g⟩ (fun S'' => S'' = C (hcells b (qs.set o p))) := by
  refine ⟨fun c a hf hs => ?_⟩
  have u := u'.upd (hcells b (qs.set o p))
  have h1 : a.eval x = _ := hf.opd hx
  have hp := hf.opd hy
  have hlt : o < qs.length := Nat.blt_eq.mp ho
  have hs0 := hs
  obtain ⟨fs, hsf⟩ := hs
  obtain ⟨f, _, rfl, ⟨arr, tt, hb, hsz⟩, hc⟩ := u.has.get hsf.all
  have hone := One.one (p := p) c _ hp
  have hfit : o + [a.eval y].length ≤ arr.size := by simp; omega
  have hrun := run_put (P := P) hb hfit (by simpa using hone)
  obtain ⟨hl, hs'⟩ := hs0.put u hb (arr' := (arr.toList.take o ++ [a.eval y] ++ arr.toList.drop (o + [a.eval y].length)).toArray) (fun f h => h.1) (fun hl => by
    have hlt' : b < c.w.heap.size := (Array.getElem?_eq_some_iff.1 hb).1
    have hnew := setW_at (w := c.w) (arr := (arr.toList.take o ++ [a.eval y] ++ arr.toList.drop (o + [a.eval y].length)).toArray) (t := tt) hlt'
    refine ⟨rfl, ⟨_, _, hnew, by rw [put_size hfit, hsz]; simp⟩, fun j q hq => ?_⟩
    rw [Nat.zero_add, cell_row hnew, put_get hfit]
    rw [List.getElem?_set] at hq
    by_cases hj : o = j
    · subst hj
      rw [if_pos rfl] at hq
      rw [if_pos hlt] at hq
      simp only [Option.some.injEq] at hq; subst hq
      exact ⟨a.eval y, by simp, p.mono hl.v hp⟩
    · rw [if_neg hj] at hq
      obtain ⟨v, h3, h4⟩ := hc j q hq
      rw [Nat.zero_add, cell_row hb] at h3
      refine ⟨v, ?_, q.mono hl.v h4⟩
      simp only [List.length_singleton]
      by_cases h5 : j < o
      · rw [if_pos h5]; exact h3
      · rw [if_neg h5, if_neg (by omega)]; exact h3)
  exact ⟨_, c.F, _, by simp [execOp, h1, Instr.storeAt, Instr.sureAddr, storeVar, one_cells hp, ht.s, hrun], hl, hs', rfl⟩

theorem UOp.storePtrAgg {t : TypeId} {x y : Operand} {b k : Nat} {gg : Bool} {qs rs : List VP} {C : HP → List HP} [ht : IsVar P t gg k] (hx : opd φ x = some (vptr b 0)) (hy : opd φ y = some (vagg rs))
    [h1s : Ones rs] (u' : Plc S (hcells b qs) C) (hl1 : qs.length = k) (hl2 : rs.length = k) : UOp P n φ S ⟨d, .store t x y, ty, ps, af, g⟩ (fun S'' => S'' = C (hcells b rs)) := by
  refine ⟨fun c a hf hs => ?_⟩
  have u := u'.upd (hcells b rs)
  have h1 : a.eval x = _ := hf.opd hx
  obtain ⟨vs, hv, hp⟩ := hf.opd hy
  have hs0 := hs
  obtain ⟨fs, hsf⟩ := hs
  obtain ⟨f, _, rfl, ⟨arr, tt, hb, hsz⟩, hc⟩ := u.has.get hsf.all
  have hvl : vs.length = k := by rw [← hp.length]; exact hl2
  have hone : ∀ v ∈ vs, v.oneCell' = true := by
    clear hv hvl hl2 u u' hy
    have h1s := h1s.one
    induction hp with
    | nil => simp
    | @cons p v ps vs hpv _ ih =>
      intro u hu
      rcases List.mem_cons.1 hu with rfl | hu
      · exact h1s c _ p (by simp) hpv
      · exact ih (fun c v r hr => h1s c v r (by simp [hr])) u hu
  have hfit : 0 + vs.length ≤ arr.size := by omega
  have hrun := run_put (P := P) hb hfit hone
  have earr : (arr.toList.take 0 ++ vs ++ arr.toList.drop (0 + vs.length)) = vs := by
    rw [List.drop_of_length_le (by simp; omega)]; simp
  rw [earr] at hrun
  obtain ⟨hl, hs'⟩ := hs0.put u hb (arr' := vs.toArray) (fun f h => h.1) (fun hl => by
    have hlt' : b < c.w.heap.size := (Array.getElem?_eq_some_iff.1 hb).1
    have hnew := setW_at (w := c.w) (arr := vs.toArray) (t := tt) hlt'
    exact ⟨rfl, ⟨_, _, hnew, by simp; omega⟩, cellsAt_row hnew (hp.mono hl.v)⟩)
  exact ⟨_, c.F, _, by simp [execOp, h1, hv, Instr.storeAt, Instr.sureAddr, storeVar, Value.cells, ht.s, hvl, hrun], hl, hs', rfl⟩

/-- a[i] = v, elements of one cell -/
theorem UOp.storeElt {t : TypeId} {x y : Operand} {b i : Nat} {gg : Bool} {α : Type} {r : α → List VP} {xs : List α} {sz : Nat} {z : α} {p : VP} {C : HP → List HP} [One p] [ht : IsVar P t gg 1]
    (hx : opd φ x = some (velt b 1 i 0)) (hy : opd φ y = some p) (u' : Plc S (harr b 1 r xs sz) C) (hi : i < xs.length) (hz : r z = [p]) :
    UOp P n φ S ⟨d, .store t x y, ty, ps, af, g⟩ (fun S'' => S'' = C (harr b 1 r (xs.set i z) sz)) := by
  refine ⟨fun c a hf hs => ?_⟩
  have u := u'.upd (harr b 1 r (xs.set i z) sz)
  have h1 : a.eval x = .pointer (some ⟨b, i * 1 + 0, none⟩) := hf.opd hx
  rw [Nat.mul_one, Nat.add_zero] at h1
  have hp := hf.opd hy
  have hs0 := hs
  obtain ⟨fs, hsf⟩ := hs
  obtain ⟨f, _, rfl, ⟨arr, tt, hb, hsz, hfits⟩, hc⟩ := u.has.get hsf.all
  have hone := One.one (p := p) c _ hp
  have hfit : i + [a.eval y].length ≤ arr.size := by simp; omega
  have hrun := run_put (P := P) hb hfit (by simpa using hone)
  obtain ⟨hl, hs'⟩ := hs0.put u hb (arr' := (arr.toList.take i ++ [a.eval y] ++ arr.toList.drop (i + [a.eval y].length)).toArray) (fun f h => h.1) (fun hl => by
    have hlt' : b < c.w.heap.size := (Array.getElem?_eq_some_iff.1 hb).1
    have hnew := setW_at (w := c.w) (arr := (arr.toList.take i ++ [a.eval y] ++ arr.toList.drop (i + [a.eval y].length)).toArray) (t := tt) hlt'
    refine ⟨rfl, ⟨_, _, hnew, by rw [put_size hfit, hsz], by simpa using hfits⟩, fun j q hq => ?_⟩
    rw [List.getElem?_set] at hq
    by_cases hj : i = j
    · subst hj
      rw [if_pos rfl, if_pos hi] at hq
      simp only [Option.some.injEq] at hq; subst hq
      refine ⟨by rw [hz]; rfl, fun m q hq => ?_⟩
      rw [hz] at hq
      cases m with
      | zero =>
        simp only [List.getElem?_cons_zero, Option.some.injEq] at hq; subst hq
        exact ⟨a.eval y, by simp only [Nat.zero_add, Nat.mul_one, Nat.add_zero]; rw [cell_row hnew, put_get hfit]; simp, p.mono hl.v hp⟩
      | succ m => simp at hq
    · rw [if_neg hj] at hq
      obtain ⟨h3, h4⟩ := hc j q hq
      refine ⟨h3, fun m q' hq' => ?_⟩
      have hm : m = 0 := by
        have : m < (r q).length := (List.getElem?_eq_some_iff.1 hq').1
        omega
      subst hm
      obtain ⟨v, h5, h6⟩ := h4 0 q' hq'
      refine ⟨v, ?_, q'.mono hl.v h6⟩
      simp only [Nat.zero_add, Nat.mul_one, Nat.add_zero] at h5 ⊢
      rw [cell_row hb] at h5
      rw [cell_row hnew, put_get hfit]
      simp only [List.length_singleton]
      by_cases h7 : j < i
      · rw [if_pos h7]; exact h5
      · rw [if_neg h7, if_neg (by omega)]; exact h5)
  exact ⟨_, c.F, _, by simp [execOp, h1, Instr.storeAt, Instr.sureAddr, storeVar, one_cells hp, ht.s, hrun], hl, hs', rfl⟩
end
end Go.Proofs.YtemfpennomelaaaDoor

/- Slices of the call's own: make, literals, append; struct values; freezing. Proved for every program P; conditions: sizes far below the address space. -/
namespace Go.Proofs.YtemfpennomelaaaDoor
open Go
set_option linter.unusedVariables false

/-- the element type of a slice -/
class IsSlM (P : Program) (t : TypeId) (e k by' : outParam Nat) (z : outParam Value) : Prop where
  ex : ∃ i, P.underlying t = some (.slice e) ∧ P.info? e = some i ∧ i.zero = some z ∧ i.size = k ∧ i.bytes = by' ∧ z.cells.size = k ∧ 0 < k

section
variable {P : Program} {n : Nat} {φ : Slots} {S : List HP} {d : Option Tmp} {ty : TypeId} {ps : String} {af : Array Edge} {g : Option (Nat × Bool)}

theorem run_sz {e : TypeId} {i : TypeInfo} (h : P.info? e = some i) (w : World) : (sizeOf e).run P w = .ok i.size w := by simp [sizeOf, typeInfo, h]

theorem mod_at {a k i j : Nat} (hj : j < k) : (i * k + j) % k = j := by rw [Nat.add_comm, Nat.add_mul_mod_self_right, Nat.mod_eq_of_lt hj]

/-! ### make -/
theorem EOp.make {t e k by' : Nat} {z : Value} [ht : IsSlM P t e k by' z] {x y : Operand} {l m : Nat} {α : Type} (r : α → List VP) (x0 : α) (hz : ∀ c, VPs c (r x0) z.cells.toList)
    (hx : opd φ x = some (vint (l : Int))) (hy : opd φ y = some (vint (m : Int))) (hlm : l ≤ m) (hb : by' * m ≤ 140737488355328) (hm : m ≤ 140737488355328) :
    EOp P n φ S ⟨d, .makeSlice t x y, ty, ps, af, g⟩ (fun q S' => ∃ b, q = vsb b l m ∧ S' = harr b k r (List.replicate m x0) (m * k) :: S) := by
  refine ⟨fun c a hf hs => ?_⟩
  obtain ⟨i, hu, hi, hz0, rfl, rfl, hzs, hk⟩ := ht.ex
  have h1 : a.eval x = .int .i64 l := hf.opd hx
  have h2 : a.eval y = .int .i64 m := hf.opd hy
  have hbb : (i.bytes : Int) * (m : Int) ≤ 281474976710656 := by
    have : (i.bytes : Int) * (m : Int) = ((i.bytes * m : Nat) : Int) := by simp
    rw [this]; omega
  have hrun := run_make (P := P) c.w t e i z hu hi hz0 .i64 .i64 (l : Int) (m : Int) (by omega) (by omega) hbb (by omega)
  simp only [Int.toNat_natCast] at hrun
  obtain ⟨hl, hs'⟩ := hs.new (k := 0) (o := .cells (madeCells z.cells (m * i.size)) e (0, 0)) (h := harr c.w.heap.size i.size r (List.replicate m x0) (m * i.size)) (fun hl =>
    ⟨rfl, ⟨_, _, newW_new, by simp [madeCells], by simp⟩, fun j x hx => by
      have hx' : x = x0 := by
        have := List.mem_of_getElem? hx
        simpa using (List.mem_replicate.1 this).2
      have hj : j < m := by have := (List.getElem?_eq_some_iff.1 hx).1; simpa using this
      subst hx'
      have hlen : (r x).length = i.size := by rw [(hz c).length, Array.length_toList, hzs]
      refine ⟨hlen, fun o p hp => ?_⟩
      have ho : o < i.size := by rw [← hlen]; exact (List.getElem?_eq_some_iff.1 hp).1
      obtain ⟨v, h3, h4⟩ := (hz ⟨c.F, c.U, newW c.w 0 _⟩).get o p hp
      refine ⟨v, ?_, h4⟩
      rw [cell_row newW_new, Nat.zero_add]
      have hlt : j * i.size + o < m * i.size := by
        calc j * i.size + o < j * i.size + i.size := by omega
          _ = (j + 1) * i.size := by rw [Nat.succ_mul]
          _ ≤ m * i.size := Nat.mul_le_mul_right _ hj
      have e1 : (madeCells z.cells (m * i.size))[j * i.size + o]? = some (z.cells[(j * i.size + o) % z.cells.size]!) := by
        simp [madeCells, hlt]
      rw [e1, hzs, mod_at (a := 0) ho]
      have h5 : z.cells[o]? = some v := by simpa using h3
      obtain ⟨h6, h7⟩ := Array.getElem?_eq_some_iff.1 h5
      rw [getElem!_pos z.cells o h6, h7]⟩)
  refine ⟨_, _, c.F, _, _, ?_, hl, rfl, hs', _, rfl, rfl⟩
  show Sem.run P (execOp a.eval _) c.w = _
  simp only [execOp, h1, h2, Sem.run_bind, hrun, Result.andThen_ok, Sem.run_pure]
  rfl

/-! ### append -/
/-- a source of m elements whose cells are vs -/
structure Src (P : Program) (k : Nat) (w : World) (u : Value) (m : Nat) (vs : List Value) : Prop where
  len : ∀ w', (Builtin.lenOf u).run P w' = .ok m w'
  cells : ∀ w', w'.heap = w.heap → (Builtin.firstCells k m u).run P w' = .ok vs.toArray w'
  size : vs.length = m * k
  one : ∀ v ∈ vs, v.oneCell' = true

theorem cell_heap {w w' : World} (h : w'.heap = w.heap) (a : Addr) : w'.cell? a = w.cell? a := by simp [World.cell?, h]

theorem run_append {t t2 e k by' : Nat} {z : Value} (ht : IsSlM P t e k by' z) (h2 : ∃ e2, P.underlying t2 = some (.slice e2)) {w : World} {b len cap : Nat} {arr : Array Value} {tt : TypeId} (hb : w.heap[b]? = some (.cells arr tt (0, 0)))
    (hsz : arr.size = cap * k) (hlen : len ≤ cap) {u : Value} {m : Nat} {vs : List Value} (hu : Src P k w u m vs) (hbound : (len + m) * by' ≤ 140737488355328) (h63 : len + m ≤ 140737488355328) :
    (len + m ≤ cap ∧ (Builtin.append_ #[t, t2] ty #[.slice (some ⟨b, 0, none⟩) len cap, u]).run P w =
      .ok (.slice (some ⟨b, 0, none⟩) (len + m) cap) (setW w b (arr.toList.take (len * k) ++ vs ++ arr.toList.drop (len * k + vs.length)).toArray tt)) ∨
    (cap < len + m ∧ ∃ cap' rest, len + m ≤ cap' ∧ (Builtin.append_ #[t, t2] ty #[.slice (some ⟨b, 0, none⟩) len cap, u]).run P w =
      .ok (.slice (some ⟨w.heap.size, 0, none⟩) (len + m) cap') (newW w 1 (.cells (arr.toList.take (len * k) ++ vs ++ rest).toArray e)) ∧ (arr.toList.take (len * k) ++ vs ++ rest).length = cap' * k) := by
  obtain ⟨i, hu', hi, hz0, rfl, rfl, hzs, hk⟩ := ht.ex
  obtain ⟨e2, h2⟩ := h2
  have hlk : len * i.size ≤ cap * i.size := Nat.mul_le_mul_right _ hlen
  have htake : (arr.toList.take (len * i.size)).length = len * i.size := by simp; omega
  by_cases hroom : len + m ≤ cap
  · refine .inl ⟨hroom, ?_⟩
    have hfit : len * i.size + vs.length ≤ arr.size := by rw [hu.size, ← Nat.add_mul, hsz]; exact Nat.mul_le_mul_right _ hroom
    have hput := run_put (P := P) hb hfit hu.one
    simp [Builtin.append_, run_underlying hu', run_underlying h2, run_sz hi, hu.len, hroom, hu.cells w rfl, add_zero_addr, hput]
  · refine .inr ⟨by omega, ?_⟩
    have hold : ∀ w', w'.heap = w.heap → (Builtin.firstCells i.size len (.slice (some ⟨b, 0, none⟩) len cap)).run P w' = .ok (arr.toList.take (len * i.size)).toArray w' := fun w' hw => by
      refine run_firstCells_some w' i.size len _ len cap _ htake (fun j v hv => ?_)
      rw [add_zero_addr, Nat.zero_add, cell_heap hw, cell_row hb]
      rw [List.getElem?_take] at hv
      split at hv
      · simpa using hv
      · cases hv
    have hq : ¬ (Question.appendCap (len + m) cap e).forced = true := by simp [Question.forced]
    have hcap : ¬ (281474976710656 < Builtin.nextslicecap (len + m) cap * i.bytes) := by
      have := growslice_fits (need := len + m) (old := cap) (bytes := i.bytes) (by omega) hbound; omega
    have hmax : ¬ ((9223372036854775807 : Int) < (len : Int) + (m : Int)) := by omega
    let cap' := (Question.appendCap (len + m) cap e).cut (w.tape w.drawn (.appendCap (len + m) cap e))
    have hcap' : len + m ≤ cap' := by show len + m ≤ (len + m) + _; omega
    refine ⟨cap', (Builtin.zeroCells z.cells (cap' - (len + m))).toList, hcap', ?_, ?_⟩
    · have hzero : ∀ w', (zeroValue e).run P w' = .ok z w' := fun w' => by simp [zeroValue, typeInfo, hi, hz0]
      have hzw : ∀ w', (typeInfo e).run P w' = .ok i w' := fun w' => by simp [typeInfo, hi]
      have e1 := hold w.drew rfl
      have e2 := hu.cells w.drew rfl
      simp only [Builtin.append_]
      simp [run_underlying hu', run_underlying h2, run_sz hi, hu.len, hroom, hmax, hzw, hcap, hzero, hq, e1, e2, newRow]
      refine ⟨rfl, ?_⟩
      show ({ w with heap := w.heap.push _, drawn := w.drawn + 1 } : World) = { w with heap := w.heap.push _, drawn := w.drawn + 1 }
      congr 2
      congr 1
      apply Array.ext'
      simp [cap']
    · simp only [List.length_append, htake, hu.size, Array.length_toList, Builtin.zeroCells, Array.size_map, Array.size_range, hzs, ← Nat.add_mul]
      congr 1; omega

theorem Src.own {c : Ctx} {k b2 m m2 : Nat} {α : Type} {r : α → List VP} {ys : List α} {sz : Nat} {f : List Nat} (h : (harr b2 k r ys sz).p c f) (h1 : ∀ c v, ∀ y, ∀ p ∈ r y, p.p c v → v.oneCell' = true) (hm : ys.length = m) :
    ∃ vs, Src P k c.w (.slice (some ⟨b2, 0, none⟩) m m2) m vs ∧ ∀ j y, ys[j]? = some y → (r y).length = k ∧ ∀ o p, (r y)[o]? = some p → ∃ v, vs[j * k + o]? = some v ∧ p.p c v := by
  obtain ⟨_, ⟨arr, tt, hb, hsz, hfit⟩, hE⟩ := h
  subst hm
  have hlen : (arr.toList.take (ys.length * k)).length = ys.length * k := by simp; omega
  have hget : ∀ j : Nat, j < ys.length * k → (arr.toList.take (ys.length * k))[j]? = arr[j]? := fun j hj => by rw [List.getElem?_take, if_pos hj]; simp
  refine ⟨arr.toList.take (ys.length * k), ⟨fun w' => rfl, fun w' hw => ?_, hlen, ?_⟩, fun j y hy => ⟨(hE j y hy).1, fun o p hp => ?_⟩⟩
  · refine run_firstCells_some w' k _ _ _ m2 _ hlen (fun j v hv => ?_)
    rw [add_zero_addr, Nat.zero_add, cell_heap hw, cell_row hb, ← hget j (by have := (List.getElem?_eq_some_iff.1 hv).1; omega)]; exact hv
  · intro v hv
    obtain ⟨j, hj⟩ := List.mem_iff_getElem?.1 hv
    have hjl : j < ys.length * k := by have := (List.getElem?_eq_some_iff.1 hj).1; omega
    have hk : 0 < k := by
      rcases Nat.eq_zero_or_pos k with h | h
      · subst h; omega
      · exact h
    have hq : j / k < ys.length := (Nat.div_lt_iff_lt_mul hk).2 hjl
    obtain ⟨h3, h4⟩ := hE (j / k) _ (List.getElem?_eq_getElem hq)
    have hm : j % k < (r ys[j / k]).length := by rw [h3]; exact Nat.mod_lt _ hk
    obtain ⟨v', h5, h6⟩ := h4 (j % k) _ (List.getElem?_eq_getElem hm)
    rw [Nat.zero_add, Nat.div_add_mod', cell_row hb, ← hget j hjl, hj] at h5
    simp only [Option.some.injEq] at h5; subst h5
    exact h1 c v _ _ (List.getElem_mem hm) h6
  · obtain ⟨v, h5, h6⟩ := (hE j y hy).2 o p hp
    have hjl : j < ys.length := (List.getElem?_eq_some_iff.1 hy).1
    have hol : o < k := by rw [← (hE j y hy).1]; exact (List.getElem?_eq_some_iff.1 hp).1
    have hlt : j * k + o < ys.length * k := by
      calc j * k + o < j * k + k := by omega
        _ = (j + 1) * k := by rw [Nat.succ_mul]
        _ ≤ ys.length * k := Nat.mul_le_mul_right _ hjl
    exact ⟨v, by rw [hget _ hlt, ← cell_row hb]; simpa using h5, h6⟩

theorem Src.sl {c : Ctx} {k : Nat} {α : Type} {r : α → List VP} {ys : List α} {u : Value} (h : (vsl k r ys).p c u) (hk : 0 < k) (h1 : ∀ c v, ∀ y, ∀ p ∈ r y, p.p c v → v.oneCell' = true) :
    ∃ vs, Src P k c.w u ys.length vs ∧ ∀ j y, ys[j]? = some y → (r y).length = k ∧ ∀ o p, (r y)[o]? = some p → ∃ v, vs[j * k + o]? = some v ∧ p.p c v := by
  obtain ⟨ao, len, cap, rfl, rfl, h3⟩ := h
  rcases h3 with rfl | ⟨b, o0, rfl, _, _, hE⟩
  · refine ⟨[], ⟨fun w' => rfl, fun w' _ => ?_, by simp, by simp⟩, by simp⟩
    cases ao with
    | none => simp [Builtin.firstCells]
    | some a => simp [Builtin.firstCells, loadCells, loadCellsFrom]
  · have key : ∀ j, j < ys.length * k → ∃ v, c.w.cell? ⟨b, o0 + j, none⟩ = some v ∧ v.oneCell' = true := fun j hj => by
      have hq : j / k < ys.length := (Nat.div_lt_iff_lt_mul hk).2 hj
      obtain ⟨h3, h4⟩ := hE (j / k) _ (List.getElem?_eq_getElem hq)
      have hm : j % k < (r ys[j / k]).length := by rw [h3]; exact Nat.mod_lt _ hk
      obtain ⟨v', h5, h6⟩ := h4 (j % k) _ (List.getElem?_eq_getElem hm)
      rw [Nat.add_assoc, Nat.div_add_mod'] at h5
      exact ⟨v', h5, h1 c _ _ _ (List.getElem_mem hm) h6⟩
    let vs := (List.range (ys.length * k)).map fun j => (c.w.cell? ⟨b, o0 + j, none⟩).getD undef
    have hv : ∀ j, j < ys.length * k → c.w.cell? ⟨b, o0 + j, none⟩ = vs[j]? := fun j hj => by
      obtain ⟨v, h, _⟩ := key j hj
      simp [vs, hj, h]
    have hl : vs.length = ys.length * k := by simp [vs]
    refine ⟨vs, ⟨fun w' => rfl, fun w' hw => run_firstCells_some w' k _ _ _ cap _ hl (fun j v hj => ?_), hl, ?_⟩, fun j y hy => ⟨(hE j y hy).1, fun o p hp => ?_⟩⟩
    · have hjl : j < ys.length * k := by have := (List.getElem?_eq_some_iff.1 hj).1; omega
      rw [add_zero_addr, cell_heap hw, hv j hjl]; exact hj
    · intro v hm
      obtain ⟨j, hj⟩ := List.mem_iff_getElem?.1 hm
      have hjl : j < ys.length * k := by have := (List.getElem?_eq_some_iff.1 hj).1; omega
      obtain ⟨v', h, ho⟩ := key j hjl
      rw [hv j hjl, hj] at h; cases h; exact ho
    · obtain ⟨v, h5, h6⟩ := (hE j y hy).2 o p hp
      have hjl : j < ys.length := (List.getElem?_eq_some_iff.1 hy).1
      have hol : o < k := by rw [← (hE j y hy).1]; exact (List.getElem?_eq_some_iff.1 hp).1
      have hlt : j * k + o < ys.length * k := by
        calc j * k + o < j * k + k := by omega
          _ = (j + 1) * k := by rw [Nat.succ_mul]
          _ ≤ ys.length * k := Nat.mul_le_mul_right _ hjl
      exact ⟨v, by rw [← hv _ hlt, ← h5, Nat.add_assoc], h6⟩

/-- elements of a row of values -/
theorem elems_append {c : Ctx} {b k : Nat} {α : Type} {r : α → List VP} {xs ys : List α} {old new rest : List Value} {tt : TypeId} (hb : c.w.heap[b]? = some (.cells (old ++ new ++ rest).toArray tt (0, 0)))
    (ho : old.length = xs.length * k) (hn : new.length = ys.length * k) (h1 : ∀ j x, xs[j]? = some x → (r x).length = k ∧ ∀ o p, (r x)[o]? = some p → ∃ v, old[j * k + o]? = some v ∧ p.p c v)
    (h2 : ∀ j y, ys[j]? = some y → (r y).length = k ∧ ∀ o p, (r y)[o]? = some p → ∃ v, new[j * k + o]? = some v ∧ p.p c v) : Elems c b 0 k r (xs ++ ys) := fun j x hx => by
  rw [List.getElem?_append] at hx
  split at hx
  · obtain ⟨h3, h4⟩ := h1 j x hx
    refine ⟨h3, fun o p hp => ?_⟩
    obtain ⟨v, h5, h6⟩ := h4 o p hp
    refine ⟨v, ?_, h6⟩
    have := (List.getElem?_eq_some_iff.1 h5).1
    rw [Nat.zero_add, cell_row hb]
    simp only [List.getElem?_toArray]
    rw [List.getElem?_append_left (by simp; omega), List.getElem?_append_left this]; exact h5
  · rename_i hge
    obtain ⟨h3, h4⟩ := h2 (j - xs.length) x hx
    refine ⟨h3, fun o p hp => ?_⟩
    obtain ⟨v, h5, h6⟩ := h4 o p hp
    refine ⟨v, ?_, h6⟩
    have hlt := (List.getElem?_eq_some_iff.1 h5).1
    have e : j * k + o = old.length + ((j - xs.length) * k + o) := by
      rw [ho, ← Nat.add_assoc, ← Nat.add_mul]; congr 2; omega
    rw [Nat.zero_add, cell_row hb]
    simp only [List.getElem?_toArray]
    rw [e, List.getElem?_append_left (by simp; omega), List.getElem?_append_right (by omega), Nat.add_sub_cancel_left]; exact h5

/-- append to a slice of the call's own -/
theorem EOp.app {t t2 e e2 k k2 by' : Nat} {z : Value} [ht : IsSlM P t e k by' z] [h2 : IsSl P t2 e2 k2] {x y : Operand} {b len cap : Nat} {α : Type} {r : α → List VP} {xs ys : List α} {C : HP → List HP} {q : VP}
    (hx : opd φ x = some (vsb b len cap)) (hy : opd φ y = some q) (hp : Plc S (harr b k r xs (cap * k)) C) (hlen : len = xs.length)
    (hsrc : ∀ c u, SH c S → q.p c u → ∃ vs, Src P k c.w u ys.length vs ∧ ∀ j y, ys[j]? = some y → (r y).length = k ∧ ∀ o p, (r y)[o]? = some p → ∃ v, vs[j * k + o]? = some v ∧ p.p c v)
    (hbound : (xs.length + ys.length) * by' ≤ 140737488355328) (h63 : xs.length + ys.length ≤ 140737488355328) :
    EOp P n φ S ⟨d, .call ⟨.builtin .append, #[x, y], #[t, t2]⟩, ty, ps, af, g⟩ (fun q S' => ∃ b' cap', q = vsb b' (xs.length + ys.length) cap' ∧ S' = C (harr b' k r (xs ++ ys) (cap' * k))) := by
  refine ⟨fun c a hf hs => ?_⟩
  subst hlen
  have h1 : a.eval x = _ := hf.opd hx
  have hq := hf.opd hy
  obtain ⟨vs, hu, hvs⟩ := hsrc c _ hs hq
  have hs0 := hs
  obtain ⟨fs, hsf⟩ := hs
  obtain ⟨f, _, rfl, ⟨arr, tt, hb, hsz, hfit⟩, hE⟩ := (hp.upd (harr b k r xs (cap * k))).has.get hsf.all
  have hk : 0 < k := by obtain ⟨_, _, _, _, _, _, _, h⟩ := ht.ex; exact h
  have hlen : xs.length ≤ cap := Nat.le_of_mul_le_mul_right hfit hk
  have hold : (arr.toList.take (xs.length * k)).length = xs.length * k := by simp; omega
  have hO : ∀ j x, xs[j]? = some x → (r x).length = k ∧ ∀ o p, (r x)[o]? = some p → ∃ v, (arr.toList.take (xs.length * k))[j * k + o]? = some v ∧ p.p c v := fun j x hx => by
    refine ⟨(hE j x hx).1, fun o p hp => ?_⟩
    obtain ⟨v, h5, h6⟩ := (hE j x hx).2 o p hp
    have hjl : j < xs.length := (List.getElem?_eq_some_iff.1 hx).1
    have hol : o < k := by rw [← (hE j x hx).1]; exact (List.getElem?_eq_some_iff.1 hp).1
    have hlt : j * k + o < xs.length * k := by
      calc j * k + o < j * k + k := by omega
        _ = (j + 1) * k := by rw [Nat.succ_mul]
        _ ≤ xs.length * k := Nat.mul_le_mul_right _ hjl
    refine ⟨v, ?_, h6⟩
    rw [List.getElem?_take, if_pos hlt]
    rw [Nat.zero_add, cell_row hb] at h5
    simpa using h5
  have up : ∀ {c' : Ctx}, c.le c' → ∀ {zs : List α} {ws : List Value}, (∀ j x, zs[j]? = some x → (r x).length = k ∧ ∀ o p, (r x)[o]? = some p → ∃ v, ws[j * k + o]? = some v ∧ p.p c v) →
      (∀ j x, zs[j]? = some x → (r x).length = k ∧ ∀ o p, (r x)[o]? = some p → ∃ v, ws[j * k + o]? = some v ∧ p.p c' v) := fun hl zs ws h j x hx =>
    ⟨(h j x hx).1, fun o p hp => let ⟨v, h5, h6⟩ := (h j x hx).2 o p hp; ⟨v, h5, p.mono hl.v h6⟩⟩
  have hex : ∀ v w', (Builtin.append_ #[t, t2] ty #[.slice (some ⟨b, 0, none⟩) xs.length cap, a.eval y]).run P c.w = .ok v w' →
      (execOp a.eval ⟨d, .call ⟨.builtin .append, #[x, y], #[t, t2]⟩, ty, ps, af, g⟩).run P c.w = .ok (.value v) w' := fun v w' h => by
    simp [execOp, resolve, invoke, builtin, h1, h]
  rcases run_append (P := P) (ty := ty) ht ⟨e2, h2.u⟩ hb hsz hlen hu hbound h63 with ⟨hroom, hrun⟩ | ⟨hno, cap', rest, hc', hrun, hl'⟩
  · have hfit' : xs.length * k + vs.length ≤ arr.size := by rw [hu.size, ← Nat.add_mul, hsz]; exact Nat.mul_le_mul_right _ hroom
    obtain ⟨hl, hs'⟩ := hs0.put (hp.upd (harr b k r (xs ++ ys) (cap * k))) hb (arr' := (arr.toList.take (xs.length * k) ++ vs ++ arr.toList.drop (xs.length * k + vs.length)).toArray) (fun f h => h.1) (fun hl => by
      have hlt' : b < c.w.heap.size := (Array.getElem?_eq_some_iff.1 hb).1
      have hnew := setW_at (w := c.w) (arr := (arr.toList.take (xs.length * k) ++ vs ++ arr.toList.drop (xs.length * k + vs.length)).toArray) (t := tt) hlt'
      refine ⟨rfl, ⟨_, _, hnew, by rw [put_size hfit', hsz], by rw [List.length_append]; exact Nat.mul_le_mul_right _ hroom⟩, ?_⟩
      exact elems_append hnew hold hu.size (up hl hO) (up hl hvs))
    exact ⟨_, _, c.F, _, _, hex _ _ hrun, hl, rfl, hs', b, cap, rfl, rfl⟩
  · obtain ⟨A, B, hS, hS'⟩ := (hp.upd (harr c.w.heap.size k r (xs ++ ys) (cap' * k))).split
    subst hS
    obtain ⟨f1, f, f2, rfl, h3, h4, h5⟩ := hsf.middle
    have hl : c.le ⟨c.F, c.U, newW c.w 1 (.cells (arr.toList.take (xs.length * k) ++ vs ++ rest).toArray e)⟩ := newW_le hsf.fro
    have hs' := hsf.replace (h' := harr c.w.heap.size k r (xs ++ ys) (cap' * k)) (f' := [c.w.heap.size]) hl h3 h5 (fun _ => .rfl) (fun b hb _ => newW_heap hb) (by simp [newW_size]) (by simp)
      ⟨rfl, ⟨_, _, newW_new, by simpa using hl', by rw [List.length_append]; exact Nat.mul_le_mul_right _ hc'⟩, elems_append newW_new hold hu.size (up hl hO) (up hl hvs)⟩
    exact ⟨_, _, c.F, _, _, hex _ _ hrun, hl, rfl, ⟨_, hs'⟩, c.w.heap.size, cap', rfl, hS'.symm⟩
end
end Go.Proofs.YtemfpennomelaaaDoor

/- Small rules by which a symbolic run goes on: tests, ends of pieces of code, entailment between states. Proved for every program P; no conditions. -/
namespace Go.Proofs.YtemfpennomelaaaDoor
open Go
set_option linter.unusedVariables false

section
variable {P : Program} {n : Nat} {Q : Post} {φ : Slots} {S : List HP} {K : Slots → List HP → Prop}

theorem seqN (h : K φ S) : Post.seq K Q .normal φ S := h
theorem seqE {i : Nat} (h : Q (.exit i) φ S) : Post.seq K Q (.exit i) φ S := h
theorem seqR (h : Q .ret φ S) : Post.seq K Q .ret φ S := h
theorem blockN {i : Nat} (h : Q .normal φ S) : Post.block i Q .normal φ S := h
theorem blockR {i : Nat} (h : Q .ret φ S) : Post.block i Q .ret φ S := h
theorem blockE {i : Nat} (h : Q .normal φ S) : Post.block i Q (.exit i) φ S := by
  show cond (Nat.beq i i) _ _
  rw [Nat.beq_refl]; exact h
theorem blockX {i j : Nat} (hne : Nat.beq j i = false) (h : Q (.exit j) φ S) : Post.block i Q (.exit j) φ S := by
  show cond (Nat.beq j i) _ _
  rw [hne]; exact h

theorem Run.condT {x : Operand} {y z : Code} (hb : opd φ x = some (vbool true)) (ht : Run P n y Q φ S) : Run P n (.cond x y z) Q φ S :=
  Run.cond hb (fun _ => ht) (fun h => by cases h)
theorem Run.condF {x : Operand} {y z : Code} (hb : opd φ x = some (vbool false)) (ht : Run P n z Q φ S) : Run P n (.cond x y z) Q φ S :=
  Run.cond hb (fun h => by cases h) (fun _ => ht)
theorem Run.condD {x : Operand} {y z : Code} {p : Prop} [Decidable p] (hb : opd φ x = some (vbool (decide p))) (ht : p → Run P n y Q φ S) (he : ¬ p → Run P n z Q φ S) : Run P n (.cond x y z) Q φ S :=
  Run.cond hb (fun h => ht (of_decide_eq_true h)) (fun h => he (of_decide_eq_false h))
theorem Run.condND {x : Operand} {y z : Code} {p : Prop} [Decidable p] (hb : opd φ x = some (vbool (!decide p))) (ht : ¬ p → Run P n y Q φ S) (he : p → Run P n z Q φ S) : Run P n (.cond x y z) Q φ S :=
  Run.cond hb (fun h => ht (by simpa using h)) (fun h => he (by simpa using h))
theorem Run.condNB {x : Operand} {y z : Code} {b : Bool} (hb : opd φ x = some (vbool (!b))) (ht : b = false → Run P n y Q φ S) (he : b = true → Run P n z Q φ S) : Run P n (.cond x y z) Q φ S :=
  Run.cond hb (fun h => ht (by simpa using h)) (fun h => he (by simpa using h))

variable {ops : Array Oper} {o : Oper} {l : List Oper}
theorem Ent.dup {d : Nat} {p : VP} (hv : φ.get d = some p) : Ent φ S ((d, p) :: φ) S := fun c n a hf hs => ⟨c.F, .refl c, ⟨hf.size, hf.defers, fun t q hq => by
    simp only [Slots.get] at hq
    cases hbt : Nat.beq d t with
    | true => obtain rfl := Nat.eq_of_beq_eq_true hbt; simp only [hbt, cond_true, Option.some.injEq] at hq; subst hq; exact hf.slot d _ hv
    | false => simp only [hbt, cond_false] at hq; exact hf.slot t q hq⟩, hs⟩

theorem RL.guardNoS {j d t : Nat} {want : Bool} {v : Value} (hdst : o.dst = some t) (hg : o.guard = some (j, want)) (hj : (ops[j]?).bind (·.dst) = some d) (hd : Nat.blt d n = true) (hv : φ.get d = some (vlit v)) (hno : isNot want v = true)
    (he : RL P n ops l K ((t, vlit undef) :: φ) S) : RL P n ops (o :: l) K φ S := RL.guardNo hg hj hd hv hno (by rw [hdst]; exact he)
theorem RL.guardNo0 {j d : Nat} {want : Bool} {v : Value} (hdst : o.dst = none) (hg : o.guard = some (j, want)) (hj : (ops[j]?).bind (·.dst) = some d) (hd : Nat.blt d n = true) (hv : φ.get d = some (vlit v)) (hno : isNot want v = true)
    (he : RL P n ops l K φ S) : RL P n ops (o :: l) K φ S := RL.guardNo hg hj hd hv hno (by rw [hdst]; exact he)

theorem RL.split {j d : Nat} {w : Bool} {b : Bool} (hg : o.guard = some (j, w)) (hj : (ops[j]?).bind (·.dst) = some d) (hv : φ.get d = some (vbool b))
    (ht : b = true → RL P n ops (o :: l) K ((d, vbool true) :: φ) S) (he : b = false → RL P n ops (o :: l) K ((d, vbool false) :: φ) S) : RL P n ops (o :: l) K φ S := by
  cases b with
  | true => exact RL.weaken (Ent.dup hv) (ht rfl)
  | false => exact RL.weaken (Ent.dup hv) (he rfl)
theorem RL.splitD {j d : Nat} {w : Bool} {p : Prop} [Decidable p] (hg : o.guard = some (j, w)) (hj : (ops[j]?).bind (·.dst) = some d) (hv : φ.get d = some (vbool (decide p)))
    (ht : p → RL P n ops (o :: l) K ((d, vbool true) :: φ) S) (he : ¬ p → RL P n ops (o :: l) K ((d, vbool false) :: φ) S) : RL P n ops (o :: l) K φ S :=
  RL.split hg hj hv (fun h => ht (of_decide_eq_true h)) (fun h => he (of_decide_eq_false h))
theorem RL.splitND {j d : Nat} {w : Bool} {p : Prop} [Decidable p] (hg : o.guard = some (j, w)) (hj : (ops[j]?).bind (·.dst) = some d) (hv : φ.get d = some (vbool (!decide p)))
    (ht : ¬ p → RL P n ops (o :: l) K ((d, vbool true) :: φ) S) (he : p → RL P n ops (o :: l) K ((d, vbool false) :: φ) S) : RL P n ops (o :: l) K φ S :=
  RL.split hg hj hv (fun h => ht (by simpa using h)) (fun h => he (by simpa using h))
theorem RL.splitNB {j d : Nat} {w : Bool} {b : Bool} (hg : o.guard = some (j, w)) (hj : (ops[j]?).bind (·.dst) = some d) (hv : φ.get d = some (vbool (!b)))
    (ht : b = false → RL P n ops (o :: l) K ((d, vbool true) :: φ) S) (he : b = true → RL P n ops (o :: l) K ((d, vbool false) :: φ) S) : RL P n ops (o :: l) K φ S :=
  RL.split hg hj hv (fun h => ht (by simpa using h)) (fun h => he (by simpa using h))
theorem RH.put {R : List HP} (hd : o.dst = none) (hv : UOp P n φ S o (fun S' => S' = R)) (h : RL P n ops l K φ R) : RH P n ops o l K φ S :=
  RH.unit hd hv (fun _ e => e ▸ h)
end

/-- the slots of ψ are among those of φ -/
inductive Sl (φ : Slots) : Slots → Prop
  | nil : Sl φ []
  | cons {t : Nat} {p q : VP} {ψ : Slots} : φ.get t = some p → p = q → Sl φ ψ → Sl φ ((t, q) :: ψ)

theorem Sl.get {φ ψ : Slots} (h : Sl φ ψ) : ∀ t p, ψ.get t = some p → φ.get t = some p := by
  induction h with
  | nil => intro t p h; cases h
  | @cons t' p' q ψ ht e _ ih =>
    subst e
    intro t p h
    simp only [Slots.get] at h
    cases hb : Nat.beq t' t with
    | true => obtain rfl := Nat.eq_of_beq_eq_true hb; simp only [hb, cond_true, Option.some.injEq] at h; subst h; exact ht
    | false => simp only [hb, cond_false] at h; exact ih t p h

/-- the chunks of T are among those of S -/
inductive Ch : List HP → List HP → Prop
  | nil {S : List HP} : Ch S []
  | cons {S S' T : List HP} {h k : HP} : Rem S h S' → h = k → Ch S' T → Ch S (k :: T)
  | refl {S : List HP} : Ch S S

theorem SH.rem {c : Ctx} {S S' : List HP} {h : HP} (hs : SH c S) (r : Rem S h S') : ∃ fs f, SHf c (h :: S') (f :: fs) := by
  obtain ⟨fs, hs⟩ := hs
  obtain ⟨A, B, rfl, rfl⟩ := r.split
  obtain ⟨f1, f, f2, rfl, h1, h2, h3⟩ := hs.middle
  obtain ⟨_, hnd, hown, hfro, hdis⟩ := hs
  refine ⟨f1 ++ f2, f, .cons h2 (h1.append h3), ?_, ?_, hfro, hdis⟩
  · simp only [List.flatten_cons, List.flatten_append, List.nodup_append, List.mem_append] at hnd ⊢
    obtain ⟨hn1, ⟨hnf, hn2, hd2⟩, hd1⟩ := hnd
    refine ⟨hnf, ⟨hn1, hn2, fun x hx y hy => hd1 x hx y (.inr hy)⟩, ?_⟩
    rintro x hx y (hy | hy)
    · exact fun e => hd1 y hy x (.inl hx) e.symm
    · exact hd2 x hx y hy
  · intro b hb
    simp only [List.flatten_cons, List.flatten_append, List.mem_append] at hb hown
    refine hown b ?_
    rcases hb with h | h | h
    · exact .inr (.inl h)
    · exact .inl h
    · exact .inr (.inr h)

theorem SHf.tail {c : Ctx} {S : List HP} {h : HP} {f : List Nat} {fs : List (List Nat)} (hs : SHf c (h :: S) (f :: fs)) : SHf c S fs := by
  obtain ⟨ha, hnd, hown, hfro, hdis⟩ := hs
  cases ha with
  | cons _ hr =>
    simp only [List.flatten_cons, List.nodup_append, List.mem_append] at hnd hown
    exact ⟨hr, hnd.2.1, fun b hb => hown b (.inr hb), hfro, hdis⟩

theorem SHf.cons_of {c : Ctx} {S : List HP} {h : HP} {f : List Nat} {fs gs : List (List Nat)} (hs : SHf c (h :: S) (f :: fs)) {T : List HP} (ht : SHf c T gs) (hsub : ∀ b ∈ gs.flatten, b ∈ fs.flatten) : SHf c (h :: T) (f :: gs) := by
  obtain ⟨ha, hnd, hown, hfro, hdis⟩ := hs
  cases ha with
  | cons hp hr =>
    simp only [List.flatten_cons, List.nodup_append, List.mem_append] at hnd hown
    refine ⟨.cons hp ht.all, ?_, ?_, hfro, hdis⟩
    · simp only [List.flatten_cons, List.nodup_append]
      exact ⟨hnd.1, ht.nodup, fun x hx y hy => hnd.2.2 x hx y (hsub y hy)⟩
    · intro b hb
      simp only [List.flatten_cons, List.mem_append] at hb
      rcases hb with hb | hb
      · exact hown b (.inl hb)
      · exact ht.own b hb

theorem Ch.sh {S T : List HP} (h : Ch S T) : ∀ {c : Ctx} {fs : List (List Nat)}, SHf c S fs → ∃ gs, SHf c T gs ∧ ∀ b ∈ gs.flatten, b ∈ fs.flatten := by
  induction h with
  | nil => intro c fs hs; exact ⟨[], ⟨.nil, by simp, by simp, hs.fro, hs.dis⟩, by simp⟩
  | refl => intro c fs hs; exact ⟨fs, hs, fun _ h => h⟩
  | @cons S S' T h k r e _ ih =>
    subst e
    intro c fs hs
    obtain ⟨A, B, rfl, rfl⟩ := r.split
    obtain ⟨f1, f, f2, rfl, h1, h2, h3⟩ := hs.middle
    obtain ⟨_, hnd, hown, hfro, hdis⟩ := hs
    have hs' : SHf c (h :: (A ++ B)) (f :: (f1 ++ f2)) := by
      refine ⟨.cons h2 (h1.append h3), ?_, ?_, hfro, hdis⟩
      · simp only [List.flatten_cons, List.flatten_append, List.nodup_append, List.mem_append] at hnd ⊢
        obtain ⟨hn1, ⟨hnf, hn2, hd2⟩, hd1⟩ := hnd
        refine ⟨hnf, ⟨hn1, hn2, fun x hx y hy => hd1 x hx y (.inr hy)⟩, ?_⟩
        rintro x hx y (hy | hy)
        · exact fun e => hd1 y hy x (.inl hx) e.symm
        · exact hd2 x hx y hy
      · intro b hb
        simp only [List.flatten_cons, List.flatten_append, List.mem_append] at hb hown
        refine hown b ?_
        rcases hb with h | h | h
        · exact .inr (.inl h)
        · exact .inl h
        · exact .inr (.inr h)
    obtain ⟨gs, hg, hsub⟩ := ih hs'.tail
    refine ⟨f :: gs, hs'.cons_of hg hsub, fun b hb => ?_⟩
    simp only [List.flatten_cons, List.mem_append, List.flatten_append] at hb hsub ⊢
    rcases hb with hb | hb
    · exact .inr (.inl hb)
    · rcases hsub b hb with h | h
      · exact .inl h
      · exact .inr (.inr h)

theorem Ent.of {φ ψ : Slots} {S T : List HP} (h : Sl φ ψ) (k : Ch S T) : Ent φ S ψ T := fun c n a hf ⟨fs, hs⟩ => by
  obtain ⟨gs, hg, _⟩ := k.sh hs
  exact ⟨c.F, .refl c, ⟨hf.size, hf.defers, fun t p ht => hf.slot t p (h.get t p ht)⟩, gs, hg⟩

/-- knowledge that lasts: a value meets p -/
def fact (v : Value) (p : VP) : HP := ⟨fun c fs => fs = [] ∧ p.p c v, fun {_ _ _} hl _ h => ⟨h.1, p.mono hl h.2⟩⟩

/-- more is known of a slot -/
theorem RL.up {P : Program} {n : Nat} {ops : Array Oper} {l : List Oper} {K : Slots → List HP → Prop} {φ : Slots} {S : List HP} (t : Nat) {v : Value} {p : VP} (h : φ.get t = some (vlit v)) (hh : Has S (fact v p))
    (hr : RL P n ops l K ((t, p) :: φ) S) : RL P n ops l K φ S := RL.weaken (fun c n a hf ⟨fs, hs⟩ => by
  obtain ⟨f, _, hp⟩ := hh.get hs.all
  refine ⟨c.F, .refl c, ⟨hf.size, hf.defers, fun t' q hq => ?_⟩, fs, hs⟩
  simp only [Slots.get] at hq
  cases hb : Nat.beq t t' with
  | true =>
    obtain rfl := Nat.eq_of_beq_eq_true hb
    simp only [hb, cond_true, Option.some.injEq] at hq; subst hq
    have : a.tmps.getD t undef = v := hf.slot t _ h
    rw [this]; exact hp.2
  | false => simp only [hb, cond_false] at hq; exact hf.slot t' q hq) hr

/-- an owned array is frozen -/
theorem frz {c : Ctx} {S S' : List HP} {b k len cap : Nat} [Pos k] {α : Type} {r : α → List VP} {xs : List α} (hs : SH c S) (hr : Rem S (harr b k r xs (cap * k)) S') (hl : len = xs.length) :
    ∃ F', c.le ⟨F', c.U, c.w⟩ ∧ SH ⟨F', c.U, c.w⟩ (fact (.slice (some ⟨b, 0, none⟩) len cap) (vsl k r xs) :: S') := by
  obtain ⟨fs, f, hs⟩ := hs.rem hr
  have hs2 := hs
  obtain ⟨ha, hnd, hown, hfro, hdis⟩ := hs
  cases ha with
  | cons hp ht =>
    obtain ⟨rfl, ⟨arr, tt, hb, _, hfit⟩, hE⟩ := hp
    have hlt : b < c.w.heap.size := (Array.getElem?_eq_some_iff.1 hb).1
    have hle : c.le ⟨fun x => c.F x ∨ x = b, c.U, c.w⟩ := ⟨fun x h => .inl h, rfl, fun _ _ => rfl, Nat.le_refl _, rfl, rfl, rfl⟩
    simp only [List.flatten_cons, List.nodup_append, List.mem_append] at hnd hown
    refine ⟨_, hle, [] :: fs, .cons ⟨rfl, _, len, cap, rfl, hl, .inr ⟨b, 0, rfl, .inr rfl, cap_of hfit, hE.le hle.v rfl⟩⟩ (ht.keep hle.v fun _ _ => rfl), ?_, ?_, ?_, ?_⟩
    · simpa using hnd.2.1
    · intro x hx
      simp only [List.flatten_cons, List.nil_append] at hx
      refine ⟨?_, (hown x (.inr hx)).2⟩
      rintro (h | rfl)
      · exact (hown x (.inr hx)).1 h
      · exact hnd.2.2 x (by simp) x hx rfl
    · rintro x ((h | rfl) | h)
      · exact hfro x (.inl h)
      · exact hlt
      · exact hfro x (.inr h)
    · rintro x (h | rfl)
      · exact hdis x h
      · exact (hown x (.inl (by simp))).2.1

end Go.Proofs.YtemfpennomelaaaDoor
