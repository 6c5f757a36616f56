/- Small rules by which a symbolic run goes on: tests, ends of pieces of code, entailment between states. Proved for every program P; no conditions. -/
import Derived.Test.YtodlpdedldhebaaCoreF
namespace Go.Proofs.Ytodlpdedldhebaa
open Go
set_option linter.unusedVariables false

section
variable {P : Program} {n : Nat} {Q : Post} {φ : Slots} {S : List HP} {K : Slots → List HP → Prop}

theorem seqN (h : K φ S) : Post.seq K Q .normal φ S := h
theorem seqE {i : Nat} (h : Q (.exit i) φ S) : Post.seq K Q (.exit i) φ S := h
theorem seqR (h : Q .ret φ S) : Post.seq K Q .ret φ S := h
theorem blockN {i : Nat} (h : Q .normal φ S) : Post.block i Q .normal φ S := h
theorem blockR {i : Nat} (h : Q .ret φ S) : Post.block i Q .ret φ S := h
theorem blockE {i : Nat} (h : Q .normal φ S) : Post.block i Q (.exit i) φ S := by
  show cond (Nat.beq i i) _ _
  rw [Nat.beq_refl]; exact h
theorem blockX {i j : Nat} (hne : Nat.beq j i = false) (h : Q (.exit j) φ S) : Post.block i Q (.exit j) φ S := by
  show cond (Nat.beq j i) _ _
  rw [hne]; exact h

theorem Run.condT {x : Operand} {y z : Code} (hb : opd φ x = some (vbool true)) (ht : Run P n y Q φ S) : Run P n (.cond x y z) Q φ S :=
  Run.cond hb (fun _ => ht) (fun h => by cases h)
theorem Run.condF {x : Operand} {y z : Code} (hb : opd φ x = some (vbool false)) (ht : Run P n z Q φ S) : Run P n (.cond x y z) Q φ S :=
  Run.cond hb (fun h => by cases h) (fun _ => ht)
theorem Run.condD {x : Operand} {y z : Code} {p : Prop} [Decidable p] (hb : opd φ x = some (vbool (decide p))) (ht : p → Run P n y Q φ S) (he : ¬ p → Run P n z Q φ S) : Run P n (.cond x y z) Q φ S :=
  Run.cond hb (fun h => ht (of_decide_eq_true h)) (fun h => he (of_decide_eq_false h))
theorem Run.condND {x : Operand} {y z : Code} {p : Prop} [Decidable p] (hb : opd φ x = some (vbool (!decide p))) (ht : ¬ p → Run P n y Q φ S) (he : p → Run P n z Q φ S) : Run P n (.cond x y z) Q φ S :=
  Run.cond hb (fun h => ht (by simpa using h)) (fun h => he (by simpa using h))
theorem Run.condNB {x : Operand} {y z : Code} {b : Bool} (hb : opd φ x = some (vbool (!b))) (ht : b = false → Run P n y Q φ S) (he : b = true → Run P n z Q φ S) : Run P n (.cond x y z) Q φ S :=
  Run.cond hb (fun h => ht (by simpa using h)) (fun h => he (by simpa using h))

variable {ops : Array Oper} {o : Oper} {l : List Oper}
theorem Ent.dup {d : Nat} {p : VP} (hv : φ.get d = some p) : Ent φ S ((d, p) :: φ) S := fun c n a hf hs => ⟨c.F, .refl c, ⟨hf.size, hf.defers, fun t q hq => by
    simp only [Slots.get] at hq
    cases hbt : Nat.beq d t with
    | true => obtain rfl := Nat.eq_of_beq_eq_true hbt; simp only [hbt, cond_true, Option.some.injEq] at hq; subst hq; exact hf.slot d _ hv
    | false => simp only [hbt, cond_false] at hq; exact hf.slot t q hq⟩, hs⟩

theorem RL.guardNoS {j d t : Nat} {want : Bool} {v : Value} (hdst : o.dst = some t) (hg : o.guard = some (j, want)) (hj : (ops[j]?).bind (·.dst) = some d) (hd : Nat.blt d n = true) (hv : φ.get d = some (vlit v)) (hno : isNot want v = true)
    (he : RL P n ops l K ((t, vlit undef) :: φ) S) : RL P n ops (o :: l) K φ S := RL.guardNo hg hj hd hv hno (by rw [hdst]; exact he)
theorem RL.guardNo0 {j d : Nat} {want : Bool} {v : Value} (hdst : o.dst = none) (hg : o.guard = some (j, want)) (hj : (ops[j]?).bind (·.dst) = some d) (hd : Nat.blt d n = true) (hv : φ.get d = some (vlit v)) (hno : isNot want v = true)
    (he : RL P n ops l K φ S) : RL P n ops (o :: l) K φ S := RL.guardNo hg hj hd hv hno (by rw [hdst]; exact he)

theorem RL.split {j d : Nat} {w : Bool} {b : Bool} (hg : o.guard = some (j, w)) (hj : (ops[j]?).bind (·.dst) = some d) (hv : φ.get d = some (vbool b))
    (ht : b = true → RL P n ops (o :: l) K ((d, vbool true) :: φ) S) (he : b = false → RL P n ops (o :: l) K ((d, vbool false) :: φ) S) : RL P n ops (o :: l) K φ S := by
  cases b with
  | true => exact RL.weaken (Ent.dup hv) (ht rfl)
  | false => exact RL.weaken (Ent.dup hv) (he rfl)
theorem RL.splitD {j d : Nat} {w : Bool} {p : Prop} [Decidable p] (hg : o.guard = some (j, w)) (hj : (ops[j]?).bind (·.dst) = some d) (hv : φ.get d = some (vbool (decide p)))
    (ht : p → RL P n ops (o :: l) K ((d, vbool true) :: φ) S) (he : ¬ p → RL P n ops (o :: l) K ((d, vbool false) :: φ) S) : RL P n ops (o :: l) K φ S :=
  RL.split hg hj hv (fun h => ht (of_decide_eq_true h)) (fun h => he (of_decide_eq_false h))
theorem RL.splitND {j d : Nat} {w : Bool} {p : Prop} [Decidable p] (hg : o.guard = some (j, w)) (hj : (ops[j]?).bind (·.dst) = some d) (hv : φ.get d = some (vbool (!decide p)))
    (ht : ¬ p → RL P n ops (o :: l) K ((d, vbool true) :: φ) S) (he : p → RL P n ops (o :: l) K ((d, vbool false) :: φ) S) : RL P n ops (o :: l) K φ S :=
  RL.split hg hj hv (fun h => ht (by simpa using h)) (fun h => he (by simpa using h))
theorem RL.splitNB {j d : Nat} {w : Bool} {b : Bool} (hg : o.guard = some (j, w)) (hj : (ops[j]?).bind (·.dst) = some d) (hv : φ.get d = some (vbool (!b)))
    (ht : b = false → RL P n ops (o :: l) K ((d, vbool true) :: φ) S) (he : b = true → RL P n ops (o :: l) K ((d, vbool false) :: φ) S) : RL P n ops (o :: l) K φ S :=
  RL.split hg hj hv (fun h => ht (by simpa using h)) (fun h => he (by simpa using h))
theorem RH.put {R : List HP} (hd : o.dst = none) (hv : UOp P n φ S o (fun S' => S' = R)) (h : RL P n ops l K φ R) : RH P n ops o l K φ S :=
  RH.unit hd hv (fun _ e => e ▸ h)
end

/-- the slots of ψ are among those of φ -/
inductive Sl (φ : Slots) : Slots → Prop
  | nil : Sl φ []
  | cons {t : Nat} {p q : VP} {ψ : Slots} : φ.get t = some p → p = q → Sl φ ψ → Sl φ ((t, q) :: ψ)

theorem Sl.get {φ ψ : Slots} (h : Sl φ ψ) : ∀ t p, ψ.get t = some p → φ.get t = some p := by
  induction h with
  | nil => intro t p h; cases h
  | @cons t' p' q ψ ht e _ ih =>
    subst e
    intro t p h
    simp only [Slots.get] at h
    cases hb : Nat.beq t' t with
    | true => obtain rfl := Nat.eq_of_beq_eq_true hb; simp only [hb, cond_true, Option.some.injEq] at h; subst h; exact ht
    | false => simp only [hb, cond_false] at h; exact ih t p h

/-- the chunks of T are among those of S -/
inductive Ch : List HP → List HP → Prop
  | nil {S : List HP} : Ch S []
  | cons {S S' T : List HP} {h k : HP} : Rem S h S' → h = k → Ch S' T → Ch S (k :: T)
  | refl {S : List HP} : Ch S S

theorem SH.rem {c : Ctx} {S S' : List HP} {h : HP} (hs : SH c S) (r : Rem S h S') : ∃ fs f, SHf c (h :: S') (f :: fs) := by
  obtain ⟨fs, hs⟩ := hs
  obtain ⟨A, B, rfl, rfl⟩ := r.split
  obtain ⟨f1, f, f2, rfl, h1, h2, h3⟩ := hs.middle
  obtain ⟨_, hnd, hown, hfro, hdis⟩ := hs
  refine ⟨f1 ++ f2, f, .cons h2 (h1.append h3), ?_, ?_, hfro, hdis⟩
  · simp only [List.flatten_cons, List.flatten_append, List.nodup_append, List.mem_append] at hnd ⊢
    obtain ⟨hn1, ⟨hnf, hn2, hd2⟩, hd1⟩ := hnd
    refine ⟨hnf, ⟨hn1, hn2, fun x hx y hy => hd1 x hx y (.inr hy)⟩, ?_⟩
    rintro x hx y (hy | hy)
    · exact fun e => hd1 y hy x (.inl hx) e.symm
    · exact hd2 x hx y hy
  · intro b hb
    simp only [List.flatten_cons, List.flatten_append, List.mem_append] at hb hown
    refine hown b ?_
    rcases hb with h | h | h
    · exact .inr (.inl h)
    · exact .inl h
    · exact .inr (.inr h)

theorem SHf.tail {c : Ctx} {S : List HP} {h : HP} {f : List Nat} {fs : List (List Nat)} (hs : SHf c (h :: S) (f :: fs)) : SHf c S fs := by
  obtain ⟨ha, hnd, hown, hfro, hdis⟩ := hs
  cases ha with
  | cons _ hr =>
    simp only [List.flatten_cons, List.nodup_append, List.mem_append] at hnd hown
    exact ⟨hr, hnd.2.1, fun b hb => hown b (.inr hb), hfro, hdis⟩

theorem SHf.cons_of {c : Ctx} {S : List HP} {h : HP} {f : List Nat} {fs gs : List (List Nat)} (hs : SHf c (h :: S) (f :: fs)) {T : List HP} (ht : SHf c T gs) (hsub : ∀ b ∈ gs.flatten, b ∈ fs.flatten) : SHf c (h :: T) (f :: gs) := by
  obtain ⟨ha, hnd, hown, hfro, hdis⟩ := hs
  cases ha with
  | cons hp hr =>
    simp only [List.flatten_cons, List.nodup_append, List.mem_append] at hnd hown
    refine ⟨.cons hp ht.all, ?_, ?_, hfro, hdis⟩
    · simp only [List.flatten_cons, List.nodup_append]
      exact ⟨hnd.1, ht.nodup, fun x hx y hy => hnd.2.2 x hx y (hsub y hy)⟩
    · intro b hb
      simp only [List.flatten_cons, List.mem_append] at hb
      rcases hb with hb | hb
      · exact hown b (.inl hb)
      · exact ht.own b hb

theorem Ch.sh {S T : List HP} (h : Ch S T) : ∀ {c : Ctx} {fs : List (List Nat)}, SHf c S fs → ∃ gs, SHf c T gs ∧ ∀ b ∈ gs.flatten, b ∈ fs.flatten := by
  induction h with
  | nil => intro c fs hs; exact ⟨[], ⟨.nil, by simp, by simp, hs.fro, hs.dis⟩, by simp⟩
  | refl => intro c fs hs; exact ⟨fs, hs, fun _ h => h⟩
  | @cons S S' T h k r e _ ih =>
    subst e
    intro c fs hs
    obtain ⟨A, B, rfl, rfl⟩ := r.split
    obtain ⟨f1, f, f2, rfl, h1, h2, h3⟩ := hs.middle
    obtain ⟨_, hnd, hown, hfro, hdis⟩ := hs
    have hs' : SHf c (h :: (A ++ B)) (f :: (f1 ++ f2)) := by
      refine ⟨.cons h2 (h1.append h3), ?_, ?_, hfro, hdis⟩
      · simp only [List.flatten_cons, List.flatten_append, List.nodup_append, List.mem_append] at hnd ⊢
        obtain ⟨hn1, ⟨hnf, hn2, hd2⟩, hd1⟩ := hnd
        refine ⟨hnf, ⟨hn1, hn2, fun x hx y hy => hd1 x hx y (.inr hy)⟩, ?_⟩
        rintro x hx y (hy | hy)
        · exact fun e => hd1 y hy x (.inl hx) e.symm
        · exact hd2 x hx y hy
      · intro b hb
        simp only [List.flatten_cons, List.flatten_append, List.mem_append] at hb hown
        refine hown b ?_
        rcases hb with h | h | h
        · exact .inr (.inl h)
        · exact .inl h
        · exact .inr (.inr h)
    obtain ⟨gs, hg, hsub⟩ := ih hs'.tail
    refine ⟨f :: gs, hs'.cons_of hg hsub, fun b hb => ?_⟩
    simp only [List.flatten_cons, List.mem_append, List.flatten_append] at hb hsub ⊢
    rcases hb with hb | hb
    · exact .inr (.inl hb)
    · rcases hsub b hb with h | h
      · exact .inl h
      · exact .inr (.inr h)

theorem Ent.of {φ ψ : Slots} {S T : List HP} (h : Sl φ ψ) (k : Ch S T) : Ent φ S ψ T := fun c n a hf ⟨fs, hs⟩ => by
  obtain ⟨gs, hg, _⟩ := k.sh hs
  exact ⟨c.F, .refl c, ⟨hf.size, hf.defers, fun t p ht => hf.slot t p (h.get t p ht)⟩, gs, hg⟩

/-- knowledge that lasts: a value meets p -/
def fact (v : Value) (p : VP) : HP := ⟨fun c fs => fs = [] ∧ p.p c v, fun {_ _ _} hl _ h => ⟨h.1, p.mono hl h.2⟩⟩

/-- more is known of a slot -/
theorem RL.up {P : Program} {n : Nat} {ops : Array Oper} {l : List Oper} {K : Slots → List HP → Prop} {φ : Slots} {S : List HP} (t : Nat) {v : Value} {p : VP} (h : φ.get t = some (vlit v)) (hh : Has S (fact v p))
    (hr : RL P n ops l K ((t, p) :: φ) S) : RL P n ops l K φ S := RL.weaken (fun c n a hf ⟨fs, hs⟩ => by
  obtain ⟨f, _, hp⟩ := hh.get hs.all
  refine ⟨c.F, .refl c, ⟨hf.size, hf.defers, fun t' q hq => ?_⟩, fs, hs⟩
  simp only [Slots.get] at hq
  cases hb : Nat.beq t t' with
  | true =>
    obtain rfl := Nat.eq_of_beq_eq_true hb
    simp only [hb, cond_true, Option.some.injEq] at hq; subst hq
    have : a.tmps.getD t undef = v := hf.slot t _ h
    rw [this]; exact hp.2
  | false => simp only [hb, cond_false] at hq; exact hf.slot t' q hq) hr

/-- an owned array is frozen -/
theorem frz {c : Ctx} {S S' : List HP} {b k len cap : Nat} {α : Type} {r : α → List VP} {xs : List α} {sz : Nat} (hs : SH c S) (hr : Rem S (harr b k r xs sz) S') (hl : len = xs.length) :
    ∃ F', c.le ⟨F', c.U, c.w⟩ ∧ SH ⟨F', c.U, c.w⟩ (fact (.slice (some ⟨b, 0, none⟩) len cap) (vsl k r xs) :: S') := by
  obtain ⟨fs, f, hs⟩ := hs.rem hr
  have hs2 := hs
  obtain ⟨ha, hnd, hown, hfro, hdis⟩ := hs
  cases ha with
  | cons hp ht =>
    obtain ⟨rfl, ⟨arr, tt, hb, _⟩, hE⟩ := hp
    have hlt : b < c.w.heap.size := (Array.getElem?_eq_some_iff.1 hb).1
    have hle : c.le ⟨fun x => c.F x ∨ x = b, c.U, c.w⟩ := ⟨fun x h => .inl h, rfl, fun _ _ => rfl, Nat.le_refl _, rfl, rfl, rfl⟩
    simp only [List.flatten_cons, List.nodup_append, List.mem_append] at hnd hown
    refine ⟨_, hle, [] :: fs, .cons ⟨rfl, _, len, cap, rfl, hl, .inr ⟨b, 0, rfl, .inr rfl, hE.le hle.v rfl⟩⟩ (ht.keep hle.v fun _ _ => rfl), ?_, ?_, ?_, ?_⟩
    · simpa using hnd.2.1
    · intro x hx
      simp only [List.flatten_cons, List.nil_append] at hx
      refine ⟨?_, (hown x (.inr hx)).2⟩
      rintro (h | rfl)
      · exact (hown x (.inr hx)).1 h
      · exact hnd.2.2 x (by simp) x hx rfl
    · rintro x ((h | rfl) | h)
      · exact hfro x (.inl h)
      · exact hlt
      · exact hfro x (.inr h)
    · rintro x (h | rfl)
      · exact hdis x h
      · exact (hown x (.inl (by simp))).2.1

end Go.Proofs.Ytodlpdedldhebaa
