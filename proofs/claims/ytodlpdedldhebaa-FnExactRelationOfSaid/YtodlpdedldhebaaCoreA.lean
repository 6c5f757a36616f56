/- A small program logic over the kit's wp: a symbolic state (assertions on the frame's slots, owned heap chunks, frozen memory). Proved for every program P; no conditions. -/
import Derived.Calls
import Derived.Orders
import Derived.WalkKit
namespace Go.Proofs.Ytodlpdedldhebaa
open Go
set_option linter.unusedVariables false

/-- frozen memory (blocks that are never written again), untouched memory (blocks that are somebody else's) and the world -/
structure Ctx where
  F : Nat → Prop
  U : Nat → Prop
  w : World

structure Ctx.le (c c' : Ctx) : Prop where
  fr : ∀ b, c.F b → c'.F b
  un : c'.U = c.U
  heap : ∀ b, c.F b ∨ c.U b → c'.w.heap[b]? = c.w.heap[b]?
  size : c.w.heap.size ≤ c'.w.heap.size
  os : c'.w.os = c.w.os
  tape : c'.w.tape = c.w.tape
  output : c'.w.output = c.w.output

theorem Ctx.le.refl (c : Ctx) : c.le c := ⟨fun _ h => h, rfl, fun _ _ => rfl, Nat.le_refl _, rfl, rfl, rfl⟩
theorem Ctx.le.trans {a b c : Ctx} (h : a.le b) (k : b.le c) : a.le c :=
  ⟨fun x hx => k.fr x (h.fr x hx), k.un.trans h.un, fun x hx => (k.heap x (hx.imp (h.fr x) (fun u => by rw [h.un]; exact u))).trans (h.heap x hx), Nat.le_trans h.size k.size,
   k.os.trans h.os, k.tape.trans h.tape, k.output.trans h.output⟩

/-- what an assertion that lasts needs -/
structure Ctx.leV (c c' : Ctx) : Prop where
  fr : ∀ b, c.F b → c'.F b
  heap : ∀ b, c.F b → c'.w.heap[b]? = c.w.heap[b]?
theorem Ctx.le.v {c c' : Ctx} (h : c.le c') : c.leV c' := ⟨h.fr, fun b hb => h.heap b (.inl hb)⟩

/-- an assertion on a value that lasts -/
structure VP where
  p : Ctx → Value → Prop
  mono : ∀ {c c' : Ctx} {v : Value}, c.leV c' → p c v → p c' v

/-- an assertion on owned blocks: it looks at the blocks of its footprint and at frozen memory alone -/
structure HP where
  p : Ctx → List Nat → Prop
  mono : ∀ {c c' : Ctx} {fs : List Nat}, c.leV c' → (∀ b ∈ fs, c'.w.heap[b]? = c.w.heap[b]?) → p c fs → p c' fs

def vlit (v : Value) : VP := ⟨fun _ u => u = v, fun _ h => h⟩
def vany : VP := ⟨fun _ _ => True, fun _ h => h⟩
@[reducible] def vint (n : Int) : VP := vlit (.int .i64 n)
@[reducible] def vbool (b : Bool) : VP := vlit (.bool b)

abbrev Slots := List (Nat × VP)
def Slots.get : Slots → Nat → Option VP
  | [], _ => none
  | (k, p) :: r, t => cond (Nat.beq k t) (some p) (Slots.get r t)

structure FH (c : Ctx) (n : Nat) (φ : Slots) (a : Act) : Prop where
  size : a.tmps.size = n
  defers : a.defers = []
  slot : ∀ t p, φ.get t = some p → p.p c (a.tmps.getD t undef)

/-- the owned chunks stand side by side -/
inductive All (c : Ctx) : List HP → List (List Nat) → Prop
  | nil : All c [] []
  | cons {h : HP} {f : List Nat} {S : List HP} {fs : List (List Nat)} : h.p c f → All c S fs → All c (h :: S) (f :: fs)

structure SHf (c : Ctx) (S : List HP) (fs : List (List Nat)) : Prop where
  all : All c S fs
  nodup : fs.flatten.Nodup
  own : ∀ b ∈ fs.flatten, ¬ c.F b ∧ ¬ c.U b ∧ b < c.w.heap.size
  fro : ∀ b, c.F b ∨ c.U b → b < c.w.heap.size
  dis : ∀ b, c.F b → ¬ c.U b

def SH (c : Ctx) (S : List HP) : Prop := ∃ fs, SHf c S fs

theorem FH.le {c c' : Ctx} {n : Nat} {φ : Slots} {a : Act} (h : FH c n φ a) (hl : c.le c') : FH c' n φ a :=
  ⟨h.size, h.defers, fun t p ht => p.mono hl.v (h.slot t p ht)⟩

theorem All.keep {c c' : Ctx} (hl : c.leV c') {S : List HP} {fs : List (List Nat)} (h : All c S fs)
    (hk : ∀ b ∈ fs.flatten, c'.w.heap[b]? = c.w.heap[b]?) : All c' S fs := by
  induction h with
  | nil => exact .nil
  | @cons h f S fs hp _ ih =>
    refine .cons (h.mono hl (fun b hb => hk b (by simp [hb])) hp) (ih fun b hb => hk b ?_)
    simp only [List.flatten_cons, List.mem_append]; exact .inr hb

theorem All.append {c : Ctx} {S T : List HP} {fs gs : List (List Nat)} (h : All c S fs) (k : All c T gs) : All c (S ++ T) (fs ++ gs) := by
  induction h with
  | nil => exact k
  | cons hp _ ih => exact .cons hp ih

theorem All.split {c : Ctx} {S T : List HP} : ∀ {fs : List (List Nat)}, All c (S ++ T) fs → ∃ f g, fs = f ++ g ∧ All c S f ∧ All c T g := by
  induction S with
  | nil => intro fs h; exact ⟨[], fs, rfl, .nil, h⟩
  | cons x S ih =>
    intro fs h
    cases h with
    | @cons _ f _ fs hp hr =>
      obtain ⟨f', g, rfl, h1, h2⟩ := ih hr
      exact ⟨f :: f', g, rfl, .cons hp h1, h2⟩

abbrev Post := Exit → Slots → List HP → Prop

/-- the outcome of a run that began at c -/
def Out (n : Nat) (Q : Post) (c : Ctx) (e : Exit) (a : Act) (w : World) : Prop :=
  ∃ F' φ' S', c.le ⟨F', c.U, w⟩ ∧ FH ⟨F', c.U, w⟩ n φ' a ∧ SH ⟨F', c.U, w⟩ S' ∧ Q e φ' S'

structure Run (P : Program) (n : Nat) (x : Code) (Q : Post) (φ : Slots) (S : List HP) : Prop where
  run : ∀ c a, FH c n φ a → SH c S → x.wp P (Out n Q c) a c.w

theorem Out.le {n : Nat} {Q : Post} {c c' : Ctx} {e : Exit} {a : Act} {w : World} (h : c.le c') (k : Out n Q c' e a w) : Out n Q c e a w :=
  by
  obtain ⟨F', φ', S', hl, hf, hs, hq⟩ := k
  rw [h.un] at hl hf hs
  exact ⟨F', φ', S', h.trans hl, hf, hs, hq⟩

section rules
variable {P : Program} {n : Nat} {Q : Post} {φ : Slots} {S : List HP}

theorem Run.skip (h : Q .normal φ S) : Run P n .skip Q φ S := ⟨fun c a hf hs => wp_skip ⟨c.F, φ, S, .refl c, hf, hs, h⟩⟩
theorem Run.exit {id : Nat} (h : Q (.exit id) φ S) : Run P n (.exit id) Q φ S := ⟨fun c a hf hs => wp_exit ⟨c.F, φ, S, .refl c, hf, hs, h⟩⟩
theorem Run.ret (h : Q .ret φ S) : Run P n .ret Q φ S := ⟨fun c a hf hs => wp_ret ⟨c.F, φ, S, .refl c, hf, hs, h⟩⟩

def Post.seq (y : Slots → List HP → Prop) (Q : Post) : Post
  | .normal, φ, S => y φ S
  | e, φ, S => Q e φ S

theorem Run.seq {x y : Code} (h : Run P n x (Post.seq (Run P n y Q) Q) φ S) : Run P n (.seq x y) Q φ S := by
  refine ⟨fun c a hf hs => ?_⟩
  refine wp_seq (wp_mono (h.run c a hf hs) fun e a' w' ho => ?_)
  obtain ⟨F', φ', S', hl, hf', hs', hq⟩ := ho
  cases e with
  | normal => exact wp_mono (hq.run ⟨F', c.U, w'⟩ a' hf' hs') fun _ _ _ k => k.le hl
  | _ => exact ⟨F', φ', S', hl, hf', hs', hq⟩

def Post.block (id : Nat) (Q : Post) : Post
  | .exit id', φ, S => cond (Nat.beq id' id) (Q .normal φ S) (Q (.exit id') φ S)
  | e, φ, S => Q e φ S

theorem Run.block {id : Nat} {x : Code} (h : Run P n x (Post.block id Q) φ S) : Run P n (.block id x) Q φ S := by
  refine ⟨fun c a hf hs => ?_⟩
  refine wp_block (wp_mono (h.run c a hf hs) fun e a' w' ho => ?_)
  obtain ⟨F', φ', S', hl, hf', hs', hq⟩ := ho
  cases e with
  | exit id' =>
    simp only [Exit.inBlock]
    by_cases hid : id' = id
    · subst hid
      simp only [Post.block, Nat.beq_refl, cond_true] at hq
      rw [if_pos rfl]; exact ⟨F', φ', S', hl, hf', hs', hq⟩
    · rw [if_neg hid]
      have : Nat.beq id' id = false := by
        cases hb : Nat.beq id' id with
        | false => rfl
        | true => exact absurd (Nat.eq_of_beq_eq_true hb) hid
      simp only [Post.block, this, cond_false] at hq
      exact ⟨F', φ', S', hl, hf', hs', hq⟩
  | _ => exact ⟨F', φ', S', hl, hf', hs', hq⟩

def opd (φ : Slots) : Operand → Option VP
  | .tmp t => φ.get t
  | .const v => some (vlit v)
  | .func f => some (vlit (.func (.func f) #[] #[]))
  | .global g => some (vlit (.pointer (some ⟨g, 0, none⟩)))

theorem FH.opd {c : Ctx} {a : Act} {x : Operand} {p : VP} (hf : FH c n φ a) (h : opd φ x = some p) : p.p c (a.eval x) := by
  cases x with
  | tmp t => exact hf.slot t p h
  | const v => simp only [Go.Proofs.Ytodlpdedldhebaa.opd, Option.some.injEq] at h; subst h; rfl
  | func f => simp only [Go.Proofs.Ytodlpdedldhebaa.opd, Option.some.injEq] at h; subst h; rfl
  | global g => simp only [Go.Proofs.Ytodlpdedldhebaa.opd, Option.some.injEq] at h; subst h; rfl

theorem Run.cond {x : Operand} {y z : Code} {b : Bool} (hb : opd φ x = some (vbool b)) (ht : b = true → Run P n y Q φ S) (he : b = false → Run P n z Q φ S) :
    Run P n (.cond x y z) Q φ S := ⟨fun c a hf hs =>
  wp_cond_split (t := b) (hf.opd hb) (fun h => (ht h).run c a hf hs) (fun h => (he h).run c a hf hs)⟩

/-- weakening the state; memory may be frozen besides -/
def Ent (φ : Slots) (S : List HP) (φ' : Slots) (S' : List HP) : Prop :=
  ∀ c n a, FH c n φ a → SH c S → ∃ F', c.le ⟨F', c.U, c.w⟩ ∧ FH ⟨F', c.U, c.w⟩ n φ' a ∧ SH ⟨F', c.U, c.w⟩ S'

theorem Run.weaken {x : Code} {φ' : Slots} {S' : List HP} (h : Ent φ S φ' S') (hr : Run P n x Q φ' S') : Run P n x Q φ S :=
  ⟨fun c a hf hs => let ⟨F', hl, h1, h2⟩ := h c n a hf hs; wp_mono (hr.run ⟨F', c.U, c.w⟩ a h1 h2) fun _ _ _ k => k.le hl⟩

theorem Ent.refl (φ : Slots) (S : List HP) : Ent φ S φ S := fun c _ _ h k => ⟨c.F, .refl c, h, k⟩
theorem Ent.trans {φ φ' φ'' : Slots} {S S' S'' : List HP} (h : Ent φ S φ' S') (k : Ent φ' S' φ'' S'') : Ent φ S φ'' S'' := fun c n a hf hs => by
  obtain ⟨F', hl, h1, h2⟩ := h c n a hf hs
  obtain ⟨F'', hl', h3, h4⟩ := k ⟨F', c.U, c.w⟩ n a h1 h2
  exact ⟨F'', hl.trans hl', h3, h4⟩

/-- a loop with an invariant over native data: x ↦ slots and chunks -/
theorem Run.loop {α : Type} {body : Code} (φx : α → Slots) (Sx : α → List HP) (Pr : α → Prop) (μ : α → Nat) (x0 : α) (h0 : Pr x0)
    (hent : Ent φ S (φx x0) (Sx x0))
    (round : ∀ x, Pr x → Run P n body (Post.seq (fun φ' S' => ∃ y, Pr y ∧ μ y < μ x ∧ Ent φ' S' (φx y) (Sx y)) Q) (φx x) (Sx x)) :
    Run P n (.loop body) Q φ S := by
  refine ⟨fun c a hf hs => ?_⟩
  obtain ⟨F0, hl0, hh1, hh2⟩ := hent c n a hf hs
  have key : ∀ m a w, (∃ F' x, μ x = m ∧ c.le ⟨F', c.U, w⟩ ∧ Pr x ∧ FH ⟨F', c.U, w⟩ n (φx x) a ∧ SH ⟨F', c.U, w⟩ (Sx x)) →
      ∀ (b : Frame) (k : List Item) (cs : List Frame), ∃ e a' w', Out n Q c e a' w' ∧
        Arrives P (lone (b.at a (.code body :: .inLoop body :: k)) cs w) b k cs e a' w' := by
    intro m
    induction m using Nat.strongRecOn with
    | _ m ih =>
      rintro a w ⟨F', x, rfl, hl, hp, hf', hs'⟩ b k cs
      obtain ⟨e, a₁, w₁, hq, harr⟩ := (round x hp).run ⟨F', c.U, w⟩ a hf' hs' b (.inLoop body :: k) cs
      have hq' := hq.le hl
      obtain ⟨F1, φ1, S1, hl1, hf1, hs1, hq1⟩ := hq'
      cases e with
      | normal =>
        obtain ⟨y, hy, hlt, hen⟩ := hq1
        obtain ⟨F2, hl2, hh1, hh2⟩ := hen ⟨F1, c.U, w₁⟩ n a₁ hf1 hs1
        obtain ⟨e₂, a₂, w₂, hq₂, harr₂⟩ := ih (μ y) hlt a₁ w₁ ⟨F2, y, rfl, hl1.trans hl2, hy, hh1, hh2⟩ b k cs
        exact ⟨e₂, a₂, w₂, hq₂, .of_steps (Steps.trans harr (.one step_inLoop)) harr₂⟩
      | exit id => exact ⟨_, a₁, w₁, ⟨F1, φ1, S1, hl1, hf1, hs1, hq1⟩, .pass (x := .inLoop body) rfl (fun _ _ => .inl (by simp)) harr⟩
      | goto l => exact ⟨_, a₁, w₁, ⟨F1, φ1, S1, hl1, hf1, hs1, hq1⟩, .pass (x := .inLoop body) rfl (fun _ _ => .inl (by simp)) harr⟩
      | ret => exact ⟨_, a₁, w₁, ⟨F1, φ1, S1, hl1, hf1, hs1, hq1⟩, .pass (x := .inLoop body) rfl (fun _ _ => .inl (by simp)) harr⟩
      | panic ch => exact ⟨_, a₁, w₁, ⟨F1, φ1, S1, hl1, hf1, hs1, hq1⟩, .pass (x := .inLoop body) rfl (fun _ _ => .inl (by simp)) harr⟩
      | outgrown => exact ⟨_, a₁, w₁, ⟨F1, φ1, S1, hl1, hf1, hs1, hq1⟩, .pass (x := .inLoop body) rfl (fun _ _ => .inl (by simp)) harr⟩
  intro b k cs
  obtain ⟨e, a', w', hq, harr⟩ := key _ a c.w ⟨F0, x0, rfl, hl0, h0, hh1, hh2⟩ b k cs
  exact ⟨e, a', w', hq, .of_steps (.one step_loop) harr⟩

end rules
end Go.Proofs.Ytodlpdedldhebaa
