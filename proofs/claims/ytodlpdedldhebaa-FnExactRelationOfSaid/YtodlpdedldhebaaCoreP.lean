/- Structs with owned slices as elements of owned slices: stores, taking one out and putting it back, what a frozen one is. Proved for every program P; conditions: the index in bounds. -/
import Derived.Test.YtodlpdedldhebaaCoreO
namespace Go.Proofs.Ytodlpdedldhebaa
open Go
set_option linter.unusedVariables false

theorem SHf.join {c : Ctx} {S : List HP} {f1 f2 : List Nat} {fs : List (List Nat)} {h1 h2 k : HP} (hs : SHf c (h1 :: h2 :: S) (f1 :: f2 :: fs)) (hk : k.p c (f1 ++ f2)) : SHf c (k :: S) ((f1 ++ f2) :: fs) := by
  obtain ⟨ha, hnd, hown, hfro, hdis⟩ := hs
  cases ha with
  | cons _ hr => cases hr with
    | cons _ hr => exact ⟨.cons hk hr, by simpa [List.append_assoc] using hnd, fun b hb => hown b (by simpa [List.append_assoc] using hb), hfro, hdis⟩
theorem SHf.part {c : Ctx} {S : List HP} {f1 f2 : List Nat} {fs : List (List Nat)} {h1 h2 k : HP} (hs : SHf c (k :: S) ((f1 ++ f2) :: fs)) (hk1 : h1.p c f1) (hk2 : h2.p c f2) : SHf c (h1 :: h2 :: S) (f1 :: f2 :: fs) := by
  obtain ⟨ha, hnd, hown, hfro, hdis⟩ := hs
  cases ha with
  | cons _ hr => exact ⟨.cons hk1 (.cons hk2 hr), by simpa [List.append_assoc] using hnd, fun b hb => hown b (by simpa [List.append_assoc] using hb), hfro, hdis⟩
theorem SHf.two {c : Ctx} {S : List HP} {fs : List (List Nat)} {h1 h2 : HP} (hs : SHf c (h1 :: h2 :: S) fs) : ∃ f1 f2 gs, fs = f1 :: f2 :: gs ∧ h1.p c f1 ∧ h2.p c f2 := by
  obtain ⟨ha, _⟩ := hs
  cases ha with
  | cons hp hr => cases hr with
    | cons hq hr => exact ⟨_, _, _, rfl, hp, hq⟩

/-- two owned slices as an element, and back -/
theorem SEnt.elPP {α β : Type} {t : TR α} {u : TR β} {v w : Value} {xs : List α} {ys : List β} {S : List HP} : SEnt (hsl t v xs :: hsl u w ys :: S) (hel (tPair (tS t) (tS u)) (xs, ys) [v, w] :: S) := fun c fs hs => by
  obtain ⟨f1, f2, gs, rfl, hp, hq⟩ := hs.two
  exact ⟨_, hs.join ⟨[v], [w], f1, f2, rfl, rfl, ⟨v, rfl, hp⟩, w, rfl, hq⟩⟩
section
variable {P : Program} {n : Nat} {φ : Slots} {S : List HP} {d : Option Tmp} {ty : TypeId} {ps : String} {af : Array Edge} {g : Option (Nat × Bool)}

/-- a struct of a number and a slice is put in its place -/
theorem UOp.storePI {t : TypeId} {x y : Operand} {gg : Bool} {α : Type} {T : TR α} {v u : Value} {a : Int} {xs : List (Int × List α)} {i : Nat} {el : List α} {S1 : List HP} [ht : IsVar P t gg 2] [One (vlit u)]
    (hx : opd φ x = some (vep v 2 i 0)) (hy : opd φ y = some (vagg [vint a, vlit u])) (hp : Pick S [hsl T u el, hsl (tPair tInt (tS T)) v xs] S1) (hi : i < xs.length) :
    UOp P n φ S ⟨d, .store t x y, ty, ps, af, g⟩ (fun S'' => S'' = hsl (tPair tInt (tS T)) v (xs.set i (a, el)) :: S1) := by
  refine ⟨fun c ac hf ⟨fs, hsf⟩ => ?_⟩
  obtain ⟨gs, hg, _⟩ := hp.sh hsf
  obtain ⟨gs2, h2⟩ := (SEnt.elP (rv := fun x : Int => .int .i64 x) (ho := fun _ => rfl) (y := a)) _ _ hg
  exact (UOp.storeEl (P := P) (n := n) (φ := φ) (T := tPair tInt (tS T)) (el := (a, el)) (ws := [.int .i64 a, u]) hx hy CellsLit.two (.cons (.tail .head) (.cons .head .nil)) rfl hi).run c ac hf ⟨gs2, h2⟩

/-- a struct of two slices is put in its place -/
theorem UOp.storePP {t : TypeId} {x y : Operand} {gg : Bool} {α β : Type} {T : TR α} {U : TR β} {v u w : Value} {xs : List (List α × List β)} {i : Nat} {el : List α} {em : List β} {S1 : List HP} [ht : IsVar P t gg 2] [One (vlit u)] [One (vlit w)]
    (hx : opd φ x = some (vep v 2 i 0)) (hy : opd φ y = some (vagg [vlit u, vlit w])) (hp : Pick S [hsl T u el, hsl U w em, hsl (tPair (tS T) (tS U)) v xs] S1) (hi : i < xs.length) :
    UOp P n φ S ⟨d, .store t x y, ty, ps, af, g⟩ (fun S'' => S'' = hsl (tPair (tS T) (tS U)) v (xs.set i (el, em)) :: S1) := by
  refine ⟨fun c ac hf ⟨fs, hsf⟩ => ?_⟩
  obtain ⟨gs, hg, _⟩ := hp.sh hsf
  obtain ⟨gs2, h2⟩ := SEnt.elPP _ _ hg
  exact (UOp.storeEl (P := P) (n := n) (φ := φ) (T := tPair (tS T) (tS U)) (el := (el, em)) (ws := [u, w]) hx hy CellsLit.two (.cons (.tail .head) (.cons .head .nil)) rfl hi).run c ac hf ⟨gs2, h2⟩

/-- the struct that is taken out, read as a whole -/
theorem VOp.loadHoleAgg {t : Nat} {x : Operand} {α : Type} {tr : TR α} {v : Value} {xs : List α} {i : Nat} {us : List Value} {k k' : Nat} [ht : IsVar P t true k'] (hx : opd φ x = some (vep v k i 0)) (hh : Has S (hsl (tHole tr) v ((xs.map .inl).set i (.inr us))))
    (hk : tr.k = k) (hk2 : k = k') (hi : i < xs.length) : VOp P n φ S ⟨d, .load t x, ty, ps, af, g⟩ (vagg (us.map vlit)) := by
  refine ⟨fun c a hf ⟨fs, hs⟩ => ?_⟩
  subst hk; subst hk2
  obtain ⟨f, _, hp⟩ := hh.get hs.all
  rcases hp with ⟨h0, _, _⟩ | ⟨b, cap, arr, tt, vss, fss, rfl, hb, hsz, hcap, hr, htk, _⟩
  · have := congrArg List.length h0; simp at this; subst this; simp at hi
  · have hx' : a.eval x = .pointer (some ⟨b, 0 + (i * tr.k + 0), none⟩) := hf.opd hx
    rw [Nat.zero_add, Nat.add_zero] at hx'
    obtain ⟨v1, ws, v2, f1, f, f2, rfl, rfl, h3, h4, h5, _⟩ := hr.at i (.inr us) (by simp [hi])
    obtain ⟨rfl, rfl, hlen, _⟩ := h5
    have hc : cellsAt c b (i * tr.k) (ws.map vlit) := fun j p hp => by
      rw [List.getElem?_map, Option.map_eq_some_iff] at hp
      obtain ⟨u, hu, rfl⟩ := hp
      refine ⟨u, ?_, rfl⟩
      have ho : j < tr.k := by rw [← hlen]; exact (List.getElem?_eq_some_iff.1 hu).1
      have hk : (tHole tr).k = tr.k := rfl
      rw [hk] at h4 htk
      simp only [List.length_set, List.length_map] at htk
      have hlt : i * tr.k + j < xs.length * tr.k := by
        calc i * tr.k + j < i * tr.k + tr.k := by omega
          _ = (i + 1) * tr.k := by rw [Nat.succ_mul]
          _ ≤ xs.length * tr.k := Nat.mul_le_mul_right _ hi
      have : (arr.toList.take (xs.length * tr.k))[i * tr.k + j]? = some u := by
        rw [htk, List.flatten_append, List.getElem?_append_right (by omega), h4, List.flatten_cons, Nat.add_sub_cancel_left, List.getElem?_append_left (by omega)]; exact hu
      rw [List.getElem?_take, if_pos hlt] at this
      rw [cell_row hb]; simpa using this
    obtain ⟨u, h6, h7⟩ := run_var ht (by simpa using hlen) hc (.inl rfl)
    exact ⟨u, by intro w' hw'; have h6 := h6 w' hw'; simp [execOp, hx', Instr.loadAt, Instr.sureAddr, h6], h7⟩
end

section
variable {P : Program} {n : Nat} {ops : Array Oper} {o : Oper} {l : List Oper} {K : Slots → List HP → Prop} {φ : Slots} {S : List HP}
end

instance {α : Type} {t : TR α} {r : α → List VP} [h : Frz t r] : Frz (tPair tInt (tS t)) (fun x => [vint x.1, vsl t.k r x.2]) := ⟨fun c x vs f h hF => by
  obtain ⟨v1, v2, f1, f2, rfl, rfl, ⟨rfl, rfl⟩, v, rfl, h4⟩ := h
  exact .cons rfl (.cons (h4.frz (fun b hb => hF b (by simp [hb]))) .nil)⟩
instance {α β : Type} {t : TR α} {u : TR β} {r : α → List VP} {s : β → List VP} [ht : Frz t r] [hu : Frz u s] : Frz (tPair (tS t) (tS u)) (fun x => [vsl t.k r x.1, vsl u.k s x.2]) := ⟨fun c x vs f h hF => by
  obtain ⟨v1, v2, f1, f2, rfl, rfl, ⟨v, rfl, h3⟩, w, rfl, h4⟩ := h
  exact .cons (h3.frz (fun b hb => hF b (by simp [hb]))) (.cons (h4.frz (fun b hb => hF b (by simp [hb]))) .nil)⟩
section
variable {P : Program} {n : Nat} {φ : Slots} {S : List HP} {d : Option Tmp} {ty : TypeId} {ps : String} {af : Array Edge} {g : Option (Nat × Bool)}
theorem VOp.fieldEp {t j o' k2 : Nat} [ht : IsFld P t j o' k2] {x : Operand} {α : Type} {tr : TR α} {v : Value} {xs : List α} {k i o : Nat} (hx : opd φ x = some (vep v k i o)) (hh : Has S (hsl tr v xs)) (hi : i < xs.length) :
    VOp P n φ S ⟨d, .fieldAddr t x j, ty, ps, af, g⟩ (vep v k i (o + o')) := by
  refine ⟨fun c a hf ⟨fs, hs⟩ => ?_⟩
  have h1 : a.eval x = eptr v (i * k + o) := hf.opd hx
  obtain ⟨f, _, hp⟩ := hh.get hs.all
  rcases hp with ⟨rfl, _, _⟩ | ⟨b, cap, arr, tt, vss, fss, rfl, _⟩
  · simp at hi
  · obtain ⟨fs, fl, hu, hfi, ho, hsz, hk⟩ := ht.u
    refine ⟨.pointer (some ⟨b, 0 + (i * k + (o + o')), none⟩), ?_, rfl⟩
    have h1' : a.eval x = .pointer (some ⟨b, 0 + (i * k + o), none⟩) := h1
    intro w' hw'
    simp [execOp, h1', Instr.fieldAt, run_underlying hu, hfi, Instr.sureAddr, fieldPlace, hsz, hk, ho, add_zero_addr, Nat.add_assoc]
end

/-! ### freezing -/
inductive Fz (B : List HP) (φ : Slots) : Slots → Prop
  | nil : Fz B φ []
  | cons {t : Nat} {p q : VP} {ψ : Slots} : φ.get t = some p → LVs B [p] [q] → Fz B φ ψ → Fz B φ ((t, q) :: ψ)
inductive FzC (B : List HP) : List HP → List HP → Prop
  | refl {S : List HP} : FzC B S S
  | keep {h : HP} {S T : List HP} : FzC B S T → FzC B (h :: S) (h :: T)
  | cells {b : Nat} {ps qs : List VP} {S T : List HP} : LVs B ps qs → FzC B S T → FzC B (hcells b ps :: S) (hcells b qs :: T)

theorem Fz.get {B : List HP} {φ ψ : Slots} (h : Fz B φ ψ) : ∀ t q, ψ.get t = some q → ∃ p, φ.get t = some p ∧ LVs B [p] [q] := by
  induction h with
  | nil => intro t q h; cases h
  | @cons t' p q' ψ h1 h2 _ ih =>
    intro t q h
    simp only [Slots.get] at h
    cases hb : Nat.beq t' t with
    | true => obtain rfl := Nat.eq_of_beq_eq_true hb; simp only [hb, cond_true, Option.some.injEq] at h; subst h; exact ⟨p, h1, h2⟩
    | false => simp only [hb, cond_false] at h; exact ih t q h

theorem VPs.of_cellsAt {c : Ctx} {b : Nat} : ∀ {ps : List VP} {o : Nat}, cellsAt c b o ps → ∃ vs, VPs c ps vs ∧ ∀ j v, vs[j]? = some v → c.w.cell? ⟨b, o + j, none⟩ = some v
  | [], o, _ => ⟨[], .nil, by simp⟩
  | p :: ps, o, h => by
    obtain ⟨v, h1, h2⟩ := h 0 p rfl
    obtain ⟨vs, h3, h4⟩ := VPs.of_cellsAt (ps := ps) (o := o + 1) (fun j q hq => by have := h (j + 1) q (by simpa using hq); rwa [Nat.add_assoc, Nat.add_comm 1 j])
    refine ⟨v :: vs, .cons h2 h3, fun j u hu => ?_⟩
    cases j with
    | zero => simp only [List.getElem?_cons_zero, Option.some.injEq] at hu; subst hu; exact h1
    | succ j => have := h4 j u (by simpa using hu); rwa [Nat.add_assoc, Nat.add_comm 1 j] at this

theorem LVs.cells {B : List HP} {ps qs : List VP} (h : LVs B ps qs) {c : Ctx} {fs : List (List Nat)} (hB : All c B fs) (hF : ∀ b ∈ fs.flatten, c.F b) {b : Nat} {f : List Nat} (hp : (hcells b ps).p c f) : (hcells b qs).p c f := by
  obtain ⟨rfl, ⟨arr, tt, h1, h2⟩, h3⟩ := hp
  obtain ⟨vs, h4, h5⟩ := VPs.of_cellsAt h3
  have h6 := h.vps hB hF h4
  refine ⟨rfl, ⟨arr, tt, h1, by rw [h2, h4.length, ← h6.length]⟩, fun j q hq => ?_⟩
  obtain ⟨v, h7, h8⟩ := h6.get j q hq
  exact ⟨v, h5 j v h7, h8⟩

theorem FzC.all {B S T : List HP} (h : FzC B S T) {c : Ctx} {fs : List (List Nat)} (hB : All c B fs) (hF : ∀ b ∈ fs.flatten, c.F b) : ∀ {gs : List (List Nat)}, All c S gs → All c T gs := by
  induction h with
  | refl => exact fun h => h
  | keep _ ih => intro gs h; cases h with | cons hp hr => exact .cons hp (ih hr)
  | cells hl _ ih => intro gs h; cases h with | cons hp hr => exact .cons (hl.cells hB hF hp) (ih hr)

theorem LVs.sl {B : List HP} {α : Type} {t : TR α} {r : α → List VP} {v : Value} {xs : List α} {k : Nat} {ps qs : List VP} (hh : Has B (hsl t v xs)) (hF : Frz t r) (hk : t.k = k) (h : LVs B ps qs) : LVs B (vlit v :: ps) (vsl k r xs :: qs) := .cons (.sl hh hk) h
theorem LVs.cut {B : List HP} {α : Type} {t : TR α} {r : α → List VP} {v : Value} {xs : List α} {k i : Nat} {ps qs : List VP} (hh : Has B (hsl t v xs)) (hF : Frz t r) (hk : t.k = k) (hi : i ≤ xs.length) (h : LVs B ps qs) : LVs B (vlit (cutV v i) :: ps) (vsl k r (xs.take i) :: qs) := .cons (.cut hh hk hi) h
theorem LVs.arr {B : List HP} {b len cap k : Nat} {α : Type} {r : α → List VP} {xs : List α} {sz : Nat} {ps qs : List VP} (hh : Has B (harr b k r xs sz)) (hl : len = xs.length) (h : LVs B ps qs) : LVs B (vsb b len cap :: ps) (vsl k r xs :: qs) := .cons (.arr hh hl) h
theorem LVs.refl {B : List HP} {p : VP} {ps qs : List VP} (h : LVs B ps qs) : LVs B (p :: ps) (p :: qs) := .cons .refl h

/-! ### calls in two steps: the arguments first, the contract then -/
section
variable {P : Program} {n : Nat} {ops : Array Oper} {o : Oper} {l : List Oper} {K : Slots → List HP → Prop} {φ : Slots} {S : List HP} {id : Nat} {W : Nat → Bool} {m : Nat} {listed : Array Bool}
theorem RH.callP {d : Nat} {f : FuncId} {xs : List Operand} {ts : Array TypeId} {ps : List VP} (ho : o.op = .call ⟨.value (.func f), xs.toArray, ts⟩) (hd : o.dst = some d)
    (hn : Nat.blt d n = true) (he : Enters P f) (ha : Opds φ xs ps) (h : ∃ R : VP → List HP → Prop, Spec P f ps [] R ∧ ∀ r H, R r H → RL P n ops l K ((d, r) :: φ) (H ++ S)) : RH P n ops o l K φ S :=
  let ⟨_, hv, hk⟩ := h; RH.callF ho hd hn he ha hv hk
theorem RH.callWP {d : Nat} {f : FuncId} {xs : List Operand} {ts : Array TypeId} {ps : List VP} (ho : o.op = .call ⟨.value (.func f), xs.toArray, ts⟩) (hd : o.dst = some d)
    (hn : Nat.blt d n = true) (he : Enters P f) (ha : Opds φ xs ps) (h : ∃ (B S0 : List HP) (R : VP → List HP → Prop), Pick S B S0 ∧ Spec P f ps B R ∧ ∀ r H, R r H → RL P n ops l K ((d, r) :: φ) (H ++ S0)) : RH P n ops o l K φ S :=
  let ⟨_, _, _, hp, hv, hk⟩ := h; RH.callW ho hd hn he ha hp hv hk
theorem RO.callP {d : Nat} {f : FuncId} {xs : List Operand} {ts : Array TypeId} {ps : List VP} (i : Nat) (l' : Array Bool) (hi : ops[i]? = some o) (hl : listed.setIfInBounds i true = l')
    (hw : Wants n ops φ o true) (hd : o.dst = some d) (hn : Nat.blt d n = true) (ho : o.op = .call ⟨.value (.func f), xs.toArray, ts⟩) (he : Enters P f) (ha : Opds φ xs ps)
    (h : ∃ R : VP → List HP → Prop, Spec P f ps [] R ∧ ∀ r H, R r H → RD P n id ops W K m l' ((d, r) :: φ) (H ++ S)) : RO P n id ops W K m listed i φ S :=
  let ⟨_, hv, hk⟩ := h; RO.callF i l' hi hl hw hd hn ho he ha hv hk
end

/-! ### calls to which all that is owned is lent -/
section
variable {P : Program} {n : Nat} {ops : Array Oper} {o : Oper} {l : List Oper} {K : Slots → List HP → Prop} {φ : Slots} {S : List HP} {id : Nat} {W : Nat → Bool} {m : Nat} {listed : Array Bool}
theorem Pick.appendNil : ∀ {S T : List HP}, Pick (S ++ T) S T
  | [], _ => .nil
  | h :: S, T => .cons .head (Pick.appendNil (S := S))
theorem Pick.whole {S : List HP} : Pick S S [] := by have := Pick.appendNil (S := S) (T := []); rwa [List.append_nil] at this
theorem RH.callL {d : Nat} {f : FuncId} {xs : List Operand} {ts : Array TypeId} {ps : List VP} (ho : o.op = .call ⟨.value (.func f), xs.toArray, ts⟩) (hd : o.dst = some d)
    (hn : Nat.blt d n = true) (he : Enters P f) (ha : Opds φ xs ps)
    (h : ∃ qs, LVs S ps qs ∧ ∃ R : VP → List HP → Prop, Spec P f qs [] R ∧ (∀ r H, R r H → NF r ∧ NFHs H) ∧ ∀ r H, R r H → RL P n ops l K ((d, r) :: φ) (H ++ S)) : RH P n ops o l K φ S :=
  let ⟨_, hL, _, hv, hR, hk⟩ := h; RH.callB ho hd hn he ha Pick.whole hL hv hR (fun r H hr => by rw [List.append_nil]; exact hk r H hr)
theorem RO.callL {d : Nat} {f : FuncId} {xs : List Operand} {ts : Array TypeId} {ps : List VP} (i : Nat) (l' : Array Bool) (hi : ops[i]? = some o) (hl : listed.setIfInBounds i true = l')
    (hw : Wants n ops φ o true) (hd : o.dst = some d) (hn : Nat.blt d n = true) (ho : o.op = .call ⟨.value (.func f), xs.toArray, ts⟩) (he : Enters P f) (ha : Opds φ xs ps)
    (h : ∃ qs, LVs S ps qs ∧ ∃ R : VP → List HP → Prop, Spec P f qs [] R ∧ (∀ r H, R r H → NF r ∧ NFHs H) ∧ ∀ r H, R r H → RD P n id ops W K m l' ((d, r) :: φ) (H ++ S)) : RO P n id ops W K m listed i φ S :=
  let ⟨_, hL, _, hv, hR, hk⟩ := h; RO.callB i l' hi hl hw hd hn ho he ha Pick.whole hL hv hR (fun r H hr => by rw [List.append_nil]; exact hk r H hr)
end

theorem Ch.same {S S' T : List HP} {h : HP} (r : Rem S h S') (k : Ch S' T) : Ch S (h :: T) := .cons r rfl k

/-! ### append of one number -/
theorem SEnt.harrV {b sz : Nat} {xs : List Int} {S : List HP} : SEnt (harr b 1 (fun x : Int => [vint x]) xs sz :: S) (harr b 1 (List.map vlit) (xs.map fun x => [.int .i64 x]) sz :: S) := fun c fs hs => by
  obtain ⟨f, gs, rfl, rfl, ⟨arr, tt, hb, hsz, hfit⟩, hE⟩ := hs.head
  refine ⟨_, hs.turn ⟨rfl, ⟨arr, tt, hb, hsz, by simpa using hfit⟩, fun i us hu => ?_⟩⟩
  rw [List.getElem?_map, Option.map_eq_some_iff] at hu
  obtain ⟨x, hx, rfl⟩ := hu
  exact hE i x hx
section
variable {P : Program} {n : Nat} {φ : Slots} {S : List HP} {d : Option Tmp} {ty : TypeId} {ps : String} {af : Array Edge} {g : Option (Nat × Bool)}
theorem EOp.appI {t t2 e e2 k2 by' : Nat} {z : Value} [ht : IsSlM P t e 1 by' z] [h2 : IsSl P t2 e2 k2] {x y : Operand} {v : Value} {xs : List Int} {w : Int} {b2 m2 sz2 : Nat} {S1 : List HP}
    (hx : opd φ x = some (vlit v)) (hy : opd φ y = some (vsb b2 1 m2)) (hp : Pick S [harr b2 1 (fun x : Int => [vint x]) [w] sz2, hsl tInt v xs] S1)
    (hbound : (xs.length + 1) * by' ≤ 140737488355328) (h63 : xs.length + 1 ≤ 140737488355328) :
    EOp P n φ S ⟨d, .call ⟨.builtin .append, #[x, y], #[t, t2]⟩, ty, ps, af, g⟩ (fun q S' => ∃ s : Sv, q = vlit (vsv s) ∧ S' = hsl tInt (vsv s) (xs ++ [w]) :: S1) := by
  refine eopWeaken ((SEnt.pick hp).trans (SEnt.harrV.trans (SEnt.val (fun x : Int => .int .i64 x) (fun _ => rfl) w _))) ?_
  refine ⟨fun c a hf ⟨fs0, hs0⟩ => ?_⟩
  have h1 : EOp P n φ (hel (tVal (fun x : Int => .int .i64 x) (fun _ => rfl)) w [.int .i64 w] :: harr b2 1 (List.map vlit) [[.int .i64 w]] sz2 :: hsl tInt v xs :: S1) ⟨d, .call ⟨.builtin .append, #[x, y], #[t, t2]⟩, ty, ps, af, g⟩ _ :=
    EOp.appH (tr := tInt) hx hy (.tail .head) (.cons .head (.cons (.tail .head) .nil)) rfl hbound h63
  obtain ⟨u, w', F', r, S', he, hle, hr, ⟨fs', hs'⟩, v', rfl, rfl⟩ := h1.run c a hf ⟨fs0, hs0⟩
  obtain ⟨f, gs', rfl, hh⟩ := hs'.head
  obtain ⟨ao, cap, rfl⟩ := ownS.shape hh
  obtain ⟨gs2, hg2⟩ := ((SEnt.pick (B := [harr b2 1 (List.map vlit) [[.int .i64 w]] sz2]) (.cons (.tail .head) .nil)).trans SEnt.drop) _ _ hs'
  exact ⟨u, w', F', _, _, he, hle, hr, ⟨gs2, hg2⟩, (ao, (xs ++ [w]).length, cap), rfl, rfl⟩
end
end Go.Proofs.Ytodlpdedldhebaa
