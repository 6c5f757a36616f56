/- Chunks joined into one, with something unknown, with nothing; contracts told in other words; the first elements of an owned slice; a slice that is not empty is not nil. Proved for every program P; conditions: indices in bounds. -/
import Derived.Test.YtodlpdedldhebaaCoreT
namespace Go.Proofs.Ytodlpdedldhebaa
open Go
set_option linter.unusedVariables false
def hstar (h k : HP) : HP := ⟨fun c fs => ∃ f g, fs = f ++ g ∧ h.p c f ∧ k.p c g,
  fun {_ _ _} hl hk ⟨f, g, e, h1, h2⟩ => ⟨f, g, e, h.mono hl (fun b hb => hk b (by rw [e]; simp [hb])) h1, k.mono hl (fun b hb => hk b (by rw [e]; simp [hb])) h2⟩⟩
/-- a chunk of which something is known -/
def hand (p : Prop) (h : HP) : HP := ⟨fun c fs => p ∧ h.p c fs, fun {_ _ _} hl hk ⟨h1, h2⟩ => ⟨h1, h.mono hl hk h2⟩⟩
theorem SEnt.star {h k : HP} {S : List HP} : SEnt (h :: k :: S) (hstar h k :: S) := fun c fs hs => by
  obtain ⟨f1, f2, gs, rfl, h1, h2⟩ := hs.two
  exact ⟨_, hs.join ⟨f1, f2, rfl, h1, h2⟩⟩
theorem SEnt.unstar {h k : HP} {S : List HP} : SEnt (hstar h k :: S) (h :: k :: S) := fun c fs hs => by
  obtain ⟨f, gs, rfl, f1, f2, rfl, h1, h2⟩ := hs.head
  exact ⟨_, hs.part h1 h2⟩
theorem SEnt.hand {p : Prop} {h : HP} {S : List HP} (hp : p) : SEnt (h :: S) (hand p h :: S) := fun c fs hs => by
  obtain ⟨f, gs, rfl, h1⟩ := hs.head
  exact ⟨_, hs.turn ⟨hp, h1⟩⟩
theorem Spec.pre {P : Program} {f : FuncId} {ps : List VP} {S T : List HP} {R : VP → List HP → Prop} (h : SEnt T S) (hv : Spec P f ps S R) : Spec P f ps T R :=
  ⟨fun c vs ha ⟨fs, hs⟩ => hv.run c vs ha (h c fs hs)⟩
theorem Spec.hand {P : Program} {f : FuncId} {ps : List VP} {p : Prop} {h : HP} {S : List HP} {R : VP → List HP → Prop} (hv : p → Spec P f ps (h :: S) R) : Spec P f ps (hand p h :: S) R :=
  ⟨fun c vs ha ⟨fs, hs⟩ => by
    obtain ⟨f, gs, rfl, hp, h1⟩ := hs.head
    exact (hv hp).run c vs ha ⟨_, hs.turn h1⟩⟩
/-- what may be said of a result -/
def SImp (S : List HP) (K : List HP → Prop) : Prop := ∀ c fs, SHf c S fs → ∃ T gs, SHf c T gs ∧ K T
theorem SImp.of {S T : List HP} {K : List HP → Prop} (h : SEnt S T) (k : K T) : SImp S K := fun c fs hs => by
  obtain ⟨gs, hg⟩ := h c fs hs
  exact ⟨T, gs, hg, k⟩
theorem SImp.ent {S T : List HP} {K : List HP → Prop} (h : SEnt S T) (k : SImp T K) : SImp S K := fun c fs hs => by
  obtain ⟨gs, hg⟩ := h c fs hs
  exact k c gs hg
theorem SImp.hand {p : Prop} {h : HP} {S : List HP} {K : List HP → Prop} (hk : p → SImp (h :: S) K) : SImp (hand p h :: S) K := fun c fs hs => by
  obtain ⟨f, gs, rfl, hp, h1⟩ := hs.head
  exact hk hp c _ (hs.turn h1)
theorem Spec.post {P : Program} {f : FuncId} {ps : List VP} {S : List HP} {R R' : VP → List HP → Prop} (hv : Spec P f ps S R) (h : ∀ r S', R r S' → SImp S' (R' r)) : Spec P f ps S R' :=
  ⟨fun c vs ha hs => (hv.run c vs ha hs).mono fun _ _ ⟨v, F', r, S', h1, h2, h3, ⟨fs, h4⟩, h5⟩ => by
    obtain ⟨T, gs, h6, h7⟩ := h r S' h5 _ fs h4
    exact ⟨v, F', r, T, h1, h2, h3, ⟨gs, h6⟩, h7⟩⟩
/-- a contract beside a chunk -/
theorem Spec.besideR {P : Program} {f : FuncId} {ps : List VP} {S : List HP} {R : VP → List HP → Prop} (hv : Spec P f ps S R) (T : List HP) : Spec P f ps (S ++ T) (fun r S' => ∃ H, R r H ∧ S' = H ++ T) :=
  Spec.some Pick.appendNil hv
theorem ownS.some {α : Type} {t : TR α} {c : Ctx} {s : Sv} {xs : List α} {f : List Nat} (h : ownS t c (vsv s) xs f) (hx : xs ≠ []) : s.1.isNone = false := by
  rcases h with ⟨h1, _⟩ | ⟨b, cap, arr, tt, vss, fss, h1, _⟩
  · exact absurd h1 hx
  · injection h1 with h2; rw [h2]; rfl
theorem SImp.some {α : Type} {t : TR α} {s : Sv} {xs : List α} {S : List HP} {K : List HP → Prop} (hx : xs ≠ []) (hk : s.1.isNone = false → SImp (hsl t (vsv s) xs :: S) K) : SImp (hsl t (vsv s) xs :: S) K := fun c fs hs => by
  obtain ⟨f, gs, rfl, h1⟩ := hs.head
  exact hk (ownS.some h1 hx) c _ hs
theorem Run.some {P : Program} {n : Nat} {x : Code} {Q : Post} {φ : Slots} {α : Type} {t : TR α} {s : Sv} {xs : List α} {S : List HP} (hh : Has S (hsl t (vsv s) xs)) (hx : xs ≠ []) (hr : s.1.isNone = false → Run P n x Q φ S) : Run P n x Q φ S :=
  ⟨fun c a hf ⟨fs, hs⟩ => by
    obtain ⟨f, _, hp⟩ := hh.get hs.all
    exact (hr (ownS.some hp hx)).run c a hf ⟨fs, hs⟩⟩
section
variable {P : Program} {n : Nat} {ops : Array Oper} {l : List Oper} {K : Slots → List HP → Prop} {φ : Slots} {S : List HP} {d : Option Tmp} {ty : TypeId} {ps : String} {af : Array Edge} {g : Option (Nat × Bool)}
theorem RL.some {α : Type} {t : TR α} {s : Sv} {xs : List α} (hh : Has S (hsl t (vsv s) xs)) (hx : xs ≠ []) (hr : s.1.isNone = false → RL P n ops l K φ S) : RL P n ops l K φ S :=
  ⟨fun c a k hl hf ⟨fs, hs⟩ => by
    obtain ⟨f, _, hp⟩ := hh.get hs.all
    exact (hr (ownS.some hp hx)).run c a k hl hf ⟨fs, hs⟩⟩
/-- v[:i] of an owned slice -/
theorem VOp.sliceH {t e k : Nat} [ht : IsSl P t e k] {α : Type} {tr : TR α} {v : Value} {xs : List α} {x y : Operand} {i : Nat} (hx : opd φ x = some (vlit v)) (hh : Has S (hsl tr v xs)) (hy : opd φ y = some (vint (i : Int)))
    (hi : i ≤ xs.length) : VOp P n φ S ⟨d, .slice t x none (some y) none, ty, ps, af, g⟩ (vlit (cutV v i)) := by
  refine ⟨fun c a hf ⟨fs, hs⟩ => ?_⟩
  have h1 : a.eval x = v := hf.opd hx
  have hy' : a.eval y = .int .i64 (i : Int) := hf.opd hy
  obtain ⟨f, _, hp⟩ := hh.get hs.all
  rcases hp with ⟨rfl, rfl, _⟩ | ⟨b, cap, arr, tt, vss, fss, rfl, _, _, h2, _⟩
  · have h0 : i = 0 := by simpa using hi
    subst h0
    refine ⟨.slice none 0 0, ?_, rfl⟩
    intro w' hw'
    simp [execOp, h1, hy', Instr.sliceAt, Instr.slice, Instr.sliceBounds, Instr.sliceBound, asIntOf, run_underlying ht.u, ht.s]
  · have h3 : i ≤ cap := by omega
    refine ⟨.slice (some ⟨b, 0, none⟩) i cap, ?_, rfl⟩
    intro w' hw'
    simp [execOp, h1, hy', Instr.sliceAt, Instr.slice, Instr.sliceBounds, Instr.sliceBound, asIntOf, run_underlying ht.u, ht.s, h3, add_zero_addr]
theorem VOp.sliceHZ {t e k : Nat} [ht : IsSl P t e k] {α : Type} {tr : TR α} {v : Value} {xs : List α} {x y : Operand} {z : Int} (hx : opd φ x = some (vlit v)) (hh : Has S (hsl tr v xs)) (hy : opd φ y = some (vint z))
    (h0 : 0 ≤ z) (hi : z.toNat ≤ xs.length) : VOp P n φ S ⟨d, .slice t x none (some y) none, ty, ps, af, g⟩ (vlit (cutV v z.toNat)) := by
  have e : z = ((z.toNat : Nat) : Int) := by omega
  exact VOp.sliceH hx hh (by rw [e] at hy; exact hy) hi
end
theorem Rows.cut {c : Ctx} {α : Type} {t : TR α} {xs : List α} {vss : List (List Value)} {fss : List (List Nat)} (h : Rows c t xs vss fss) : ∀ (i : Nat), i ≤ xs.length →
    ∃ v1 v2 f1 f2, vss = v1 ++ v2 ∧ fss = f1 ++ f2 ∧ Rows c t (xs.take i) v1 f1 ∧ True := by
  induction h with
  | nil => intro i hi; exact ⟨[], [], [], [], rfl, rfl, by simpa using Rows.nil, trivial⟩
  | @cons x vs f xs vss fss hp hr ih =>
    intro i hi
    cases i with
    | zero => exact ⟨[], _, [], _, rfl, rfl, .nil, trivial⟩
    | succ i =>
      obtain ⟨v1, v2, f1, f2, rfl, rfl, h1, _⟩ := ih i (by simpa using hi)
      exact ⟨vs :: v1, v2, f :: f1, f2, rfl, rfl, .cons hp h1, trivial⟩
end Go.Proofs.Ytodlpdedldhebaa
