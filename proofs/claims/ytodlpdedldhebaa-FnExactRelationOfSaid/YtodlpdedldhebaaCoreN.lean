/- The end of a function: its results read, what is owned put together for its contract. Proved for every program P; no conditions. -/
import Derived.Test.YtodlpdedldhebaaCoreM
namespace Go.Proofs.Ytodlpdedldhebaa
open Go
set_option linter.unusedVariables false

section
variable {P : Program} {φ : Slots} {S : List HP}
theorem Res.cellAgg {a k b : Nat} {ty : TypeId} {qs : List VP} {rs : List ResultVar} {ps : List VP} [ht : IsVar P ty true k] (hp : φ.get a = some (vptr b 0)) (hh : Has S (hcells b qs)) (hl : qs.length = k) (hr : Res P φ S rs ps) :
    Res P φ S (.cell a ty :: rs) (vagg qs :: ps) := by
  refine .cell hp (fun c v hv ⟨fs, hs⟩ => ?_) hr
  have h1 : v = .pointer (some ⟨b, 0, none⟩) := hv
  subst h1
  obtain ⟨f, _, _, _, h3⟩ := hh.get hs.all
  obtain ⟨u, h4, h5⟩ := run_var ht hl h3 (.inl rfl)
  exact ⟨u, by simpa [asAddr] using h4 c.w (Same.refl _), h5⟩

theorem Run.post {n : Nat} {x : Code} {Q Q' : Post} (h : Run P n x Q φ S) (hq : ∀ e φ' S', Q e φ' S' → Q' e φ' S') : Run P n x Q' φ S :=
  ⟨fun c a hf hs => wp_mono (h.run c a hf hs) fun e a' w' ⟨F', φ', S', h1, h2, h3, h4⟩ => ⟨F', φ', S', h1, h2, h3, hq _ _ _ h4⟩⟩
theorem Spec.of_run2 {f : FuncId} {fn : Func} {x : Code} {ps : List VP} {R : VP → List HP → Prop} {rv : List ResultVar} {n : Nat} (hf : P.funcs[f]? = Option.some fn) (hb : fn.body = Option.some x)
    (hrv : fn.results = rv.toArray) (hn : fn.ntmps = n) (hle : Nat.ble ps.length n = true)
    (h : Run P n x (fun e φ' S' => (e = .ret ∨ e = .normal) ∧ ∃ rs S2, Res P φ' S' rv rs ∧ SEnt S' S2 ∧ R (vres rs) S2) (entry 0 ps) S) :
    Spec P f ps S R := by
  have h1 : Spec P f ps S (fun r S' => ∃ S2, SEnt S' S2 ∧ R r S2) := Spec.of_run hf hb hrv hn hle (Run.post h (fun e φ' S' ⟨he, rs, S2, hr, hs, hR⟩ => ⟨he, rs, hr, S2, hs, hR⟩))
  exact ⟨fun c vs ha hs => (h1.run c vs ha hs).mono fun e w' ⟨v, F', r, S', h1, h2, h3, ⟨fs, h4⟩, S2, h5, h6⟩ => ⟨v, F', r, S2, h1, h2, h3, h5 _ fs h4, h6⟩⟩

theorem fin {e : Exit} {rv : List ResultVar} {rs : List VP} {S2 : List HP} {R : VP → List HP → Prop} (he : e = .ret ∨ e = .normal) (hr : Res P φ S rv rs) (hs : SEnt S S2) (h : R (vres rs) S2) :
    (e = .ret ∨ e = .normal) ∧ ∃ rs S2, Res P φ S rv rs ∧ SEnt S S2 ∧ R (vres rs) S2 := ⟨he, rs, S2, hr, hs, h⟩
theorem SEnt.refl (S : List HP) : SEnt S S := fun _ fs h => ⟨fs, h⟩
end

theorem SEnt.drop {h : HP} {S : List HP} : SEnt (h :: S) S := fun c fs hs => by
  obtain ⟨f, gs, rfl, _⟩ := hs.head
  exact ⟨gs, hs.tail⟩
/-- an empty array, as an owned slice of any layout -/
theorem SEnt.packNil {α β : Type} (t : TR α) {r : β → List VP} {b k cap sz : Nat} {S : List HP} (hsz : sz = cap * t.k) :
    SEnt (harr b k r [] sz :: S) (hsl t (.slice (some ⟨b, 0, none⟩) 0 cap) [] :: S) := fun c fs hs => by
  subst hsz
  obtain ⟨f, gs, rfl, rfl, ⟨arr, tt, hb, hsz, hfit⟩, hE⟩ := hs.head
  exact ⟨_, hs.turn (.inr ⟨b, cap, arr, tt, [], [], rfl, hb, hsz, by simp, .nil, by simp, rfl⟩)⟩
/-- the three parts of a slice value -/
abbrev Sv := Option Addr × Nat × Nat
@[reducible] def vsv (s : Sv) : Value := .slice s.1 s.2.1 s.2.2
instance {s : Sv} : One (vlit (vsv s)) := ⟨fun _ _ h => by cases h; rfl⟩

section
variable {P : Program} {n : Nat} {φ : Slots} {S : List HP} {d : Option Tmp} {ty : TypeId} {ps : String} {af : Array Edge} {g : Option (Nat × Bool)}

/-- append of one owned row, which a literal of one element holds -/
theorem EOp.appR {t t2 e e2 k2 by' : Nat} {z : Value} [ht : IsSlM P t e 1 by' z] [h2 : IsSl P t2 e2 k2] {x y : Operand} {α : Type} {tr : TR α} {v v1 : Value} {xs : List (List α)} {el : List α} {b2 m2 sz2 : Nat} {S1 : List HP}
    (hx : opd φ x = some (vlit v)) (hy : opd φ y = some (vsb b2 1 m2)) (hp : Pick S [harr b2 1 (List.map vlit) [[v1]] sz2, hsl tr v1 el, hsl (tS tr) v xs] S1)
    (hbound : (xs.length + 1) * by' ≤ 140737488355328) (h63 : xs.length + 1 ≤ 140737488355328) :
    EOp P n φ S ⟨d, .call ⟨.builtin .append, #[x, y], #[t, t2]⟩, ty, ps, af, g⟩ (fun q S' => ∃ s : Sv, q = vlit (vsv s) ∧ S' = hsl (tS tr) (vsv s) (xs ++ [el]) :: S1) := by
  refine ⟨fun c a hf ⟨fs0, hs0⟩ => ?_⟩
  obtain ⟨fs, hs, _⟩ := hp.sh hs0
  have hE : SEnt (harr b2 1 (List.map vlit) [[v1]] sz2 :: hsl tr v1 el :: hsl (tS tr) v xs :: S1) (hel (tS tr) el [v1] :: hsl (tS tr) v xs :: harr b2 1 (List.map vlit) [[v1]] sz2 :: S1) :=
    (SEnt.pick (B := [hsl tr v1 el]) (.cons (.tail .head) .nil)).trans (SEnt.elS.trans (SEnt.pick (B := [hel (tS tr) el [v1], hsl (tS tr) v xs]) (.cons .head (.cons (.tail .head) .nil))))
  obtain ⟨gs, hg⟩ := hE c fs hs
  have h1 : EOp P n φ (hel (tS tr) el [v1] :: hsl (tS tr) v xs :: harr b2 1 (List.map vlit) [[v1]] sz2 :: S1) ⟨d, .call ⟨.builtin .append, #[x, y], #[t, t2]⟩, ty, ps, af, g⟩ _ :=
    EOp.appH (tr := tS tr) hx hy (.tail (.tail .head)) (.cons .head (.cons .head .nil)) rfl hbound h63
  obtain ⟨u, w', F', r, S', he, hle, hr, ⟨fs', hs'⟩, v', rfl, rfl⟩ := h1.run c a hf ⟨gs, hg⟩
  obtain ⟨f, gs', rfl, hh⟩ := hs'.head
  obtain ⟨ao, cap, rfl⟩ := ownS.shape hh
  have hS : SEnt (hsl (tS tr) (.slice ao (xs ++ [el]).length cap) (xs ++ [el]) :: harr b2 1 (List.map vlit) [[v1]] sz2 :: S1) (hsl (tS tr) (.slice ao (xs ++ [el]).length cap) (xs ++ [el]) :: S1) :=
    (SEnt.pick (B := [harr b2 1 (List.map vlit) [[v1]] sz2]) (.cons (.tail .head) .nil)).trans SEnt.drop
  obtain ⟨gs2, hg2⟩ := hS _ _ hs'
  exact ⟨u, w', F', _, _, he, hle, hr, ⟨gs2, hg2⟩, (ao, (xs ++ [el]).length, cap), rfl, rfl⟩

theorem eopWeaken {o : Oper} {T : List HP} {R : VP → List HP → Prop} (h : SEnt S T) (hv : EOp P n φ T o R) : EOp P n φ S o R :=
  ⟨fun c a hf ⟨fs, hs⟩ => hv.run c a hf (h c fs hs)⟩

/-- append of one row of numbers, which stands in an array of its own -/
theorem EOp.appRI {t t2 e e2 k2 by' : Nat} {z : Value} [ht : IsSlM P t e 1 by' z] [h2 : IsSl P t2 e2 k2] {x y : Operand} {v : Value} {xs : List (List Int)} {el : List Int} {b1 b2 l1 c1 m2 sz2 : Nat} {S1 : List HP}
    (hx : opd φ x = some (vlit v)) (hy : opd φ y = some (vsb b2 1 m2)) (hp : Pick S [harr b2 1 (List.map vlit) [[.slice (some ⟨b1, 0, none⟩) l1 c1]] sz2, harr b1 1 (fun x : Int => [vint x]) el (c1 * 1), hsl (tS tInt) v xs] S1)
    (hl : l1 = el.length) (hbound : (xs.length + 1) * by' ≤ 140737488355328) (h63 : xs.length + 1 ≤ 140737488355328) :
    EOp P n φ S ⟨d, .call ⟨.builtin .append, #[x, y], #[t, t2]⟩, ty, ps, af, g⟩ (fun q S' => ∃ s : Sv, q = vlit (vsv s) ∧ S' = hsl (tS tInt) (vsv s) (xs ++ [el]) :: S1) := by
  refine eopWeaken ((SEnt.pick hp).trans ((SEnt.pick (B := [harr b1 1 (fun x : Int => [vint x]) el (c1 * 1)]) (.cons (.tail .head) .nil)).trans ((SEnt.pack (rv := fun x => .int .i64 x) (fun _ => rfl) hl)))) ?_
  exact EOp.appR (tr := tInt) hx hy (.cons (.tail .head) (.cons .head (.cons .head .nil))) hbound h63

theorem Elts.one1 {m : Nat} {x : Operand} {v : Value} {lp : List (Nat × Operand)} {zs : List (List Value)} [One (vlit v)] (hx : opd φ x = some (vlit v)) (h : Elts φ (List.map vlit) (m + 1) lp zs) : Elts φ (List.map vlit) m ((m, x) :: lp) ([v] :: zs) :=
  .cons hx CellsOf.one h
theorem Elts.agg2 {m : Nat} {x : Operand} {u v : Value} {lp : List (Nat × Operand)} {zs : List (List Value)} (hx : opd φ x = some (vagg [vlit u, vlit v])) (h : Elts φ (List.map vlit) (m + 1) lp zs) : Elts φ (List.map vlit) m ((m, x) :: lp) ([u, v] :: zs) :=
  .cons hx CellsOf.agg h
theorem EOpS.slitV {t e k by' len : Nat} {z : Value} [ht : IsSlM P t e k by' z] {zs : List (List Value)} {lp : List (Nat × Operand)} (hp : Elts φ (List.map vlit) 0 lp zs) (hk : ∀ z ∈ zs, (List.map vlit z).length = k) (hl : len = zs.length) (hsm : Nat.ble (len * k) 16777216 = true) :
    EOpS P n φ S ⟨d, .buildSlice t len lp.toArray, ty, ps, af, g⟩ (fun q S' => ∃ b, q = vsb b len len ∧ S' = harr b k (List.map vlit) zs (len * k) :: S) := EOpS.slit _ zs hk hp hl hsm

/-- rs in place of the parts of qs from o on -/
inductive SetV : List VP → Nat → List VP → List VP → Prop
  | nil {qs : List VP} : SetV qs 0 [] qs
  | hit {q r : VP} {qs rs qs' : List VP} : SetV qs 0 rs qs' → SetV (q :: qs) 0 (r :: rs) (r :: qs')
  | skip {q : VP} {qs rs qs' : List VP} {o : Nat} : SetV qs o rs qs' → SetV (q :: qs) (o + 1) rs (q :: qs')
theorem SetV.eq {qs rs qs' : List VP} {o : Nat} (h : SetV qs o rs qs') : setV qs o rs = qs' := by
  induction h with
  | nil => simp [setV]
  | hit _ ih => simp [setV] at ih ⊢; exact ih
  | skip _ ih => simp [setV] at ih ⊢; rw [show ∀ a b : Nat, a + 1 + b = (a + b) + 1 from fun a b => by omega, List.drop_succ_cons]; exact ih
theorem SetV.set1 {qs qs' : List VP} {o : Nat} {p : VP} (h : SetV qs o [p] qs') : qs.set o p = qs' ∧ Nat.blt o qs.length = true := by
  induction qs generalizing o qs' with
  | nil => cases h
  | cons q qs ih =>
    cases h with
    | hit h => cases h; exact ⟨rfl, by simp [Nat.blt]⟩
    | skip h =>
      obtain ⟨h1, h2⟩ := ih h
      have := Nat.blt_eq.mp h2
      exact ⟨by rw [List.set_cons_succ, h1], Nat.blt_eq.mpr (by simpa using this)⟩
theorem UOp.storePtrS {t : TypeId} {x y : Operand} {b o : Nat} {gg : Bool} {qs qs' : List VP} {p : VP} {C : HP → List HP} [One p] [ht : IsVar P t gg 1] (hx : opd φ x = some (vptr b o)) (hy : opd φ y = some p)
    (u' : Plc S (hcells b qs) C) (hq : SetV qs o [p] qs') : UOp P n φ S ⟨d, .store t x y, ty, ps, af, g⟩ (fun S'' => S'' = C (hcells b qs')) := by
  obtain ⟨h1, h2⟩ := hq.set1
  rw [← h1]; exact UOp.storePtr hx hy u' h2
theorem Parts.consV {pl : List (Nat × Nat)} {qs rs q1 qs' : List VP} {i o k : Nat} {x : Operand} {p : VP} {ps : List (Nat × Operand)} (h1 : pl[i]? = some (o, k)) (h2 : opd φ x = some p) (h3 : CellsOf p rs) (h4 : rs.length = k) (h5 : Nat.ble (o + k) qs.length = true) (h6 : SetV qs o rs q1)
    (h7 : Parts φ pl q1 ps qs') : Parts φ pl qs ((i, x) :: ps) qs' := .cons h1 h2 h3 h4 h5 (h6.eq ▸ h7)

/-- k parts of qs from o on -/
inductive Cut : List VP → Nat → Nat → List VP → Prop
  | nil {qs : List VP} : Cut qs 0 0 []
  | take {q : VP} {qs rs : List VP} {k : Nat} : Cut qs 0 k rs → Cut (q :: qs) 0 (k + 1) (q :: rs)
  | drop {q : VP} {qs rs : List VP} {o k : Nat} : Cut qs o k rs → Cut (q :: qs) (o + 1) k rs
theorem Cut.eq {qs rs : List VP} {o k : Nat} (h : Cut qs o k rs) : (qs.drop o).take k = rs ∧ rs.length = k := by
  induction h with
  | nil => simp
  | take _ ih => simp at ih ⊢; exact ih
  | drop _ ih => simpa using ih

theorem VOp.loadPtrC {t : Nat} {x : Operand} {b o : Nat} {qs rs : List VP} {k : Nat} [ht : IsVar P t true k] (hx : opd φ x = some (vptr b o)) (hh : Has S (hcells b qs)) (hc : Cut qs o k rs) :
    VOp P n φ S ⟨d, .load t x, ty, ps, af, g⟩ (vagg rs) := by
  have h := hc.eq
  have := VOp.loadPtrAgg (d := d) (ty := ty) (ps := ps) (af := af) (g := g) (n := n) (ht := ht) hx hh (by rw [h.1]; exact h.2)
  rw [h.1] at this; exact this
theorem VOp.fieldFpC {t i o k : Nat} [ht : IsFld P t i o k] {x : Operand} {qs rs : List VP} (hx : opd φ x = some (vfp qs)) (hc : Cut qs o k rs) : VOp P n φ S ⟨d, .fieldAddr t x i, ty, ps, af, g⟩ (vfp rs) := by
  have h := hc.eq
  have := VOp.fieldFp (d := d) (ty := ty) (ps := ps) (af := af) (g := g) (n := n) (S := S) (ht := ht) hx
  rw [h.1] at this; exact this
end

section
variable {P : Program} {n : Nat} {ops : Array Oper} {o : Oper} {l : List Oper} {K : Slots → List HP → Prop} {φ : Slots} {S : List HP}

theorem focusRow {α : Type} {t : TR α} {v : Value} {xs : List (List α)} {i : Nat} {S1 : List HP} (hi : i < xs.length) {c : Ctx} {f : List Nat} {fs : List (List Nat)} (hs : SHf c (hsl (tS t) v xs :: S1) (f :: fs)) :
    ∃ u gs, SHf c (hsl t u (xs[i]'hi) :: hsl (tHole (tS t)) v ((xs.map .inl).set i (.inr [u])) :: S1) gs := by
  obtain ⟨us, gs, h1, h2⟩ := focusS hi hs
  match us, h1 with
  | [u], _ =>
    obtain ⟨gs', h3⟩ := SEnt.unS _ _ h2
    exact ⟨u, gs', h3⟩

/-- one row is taken out -/
theorem RH.focusRow {α : Type} {t : TR α} {v : Value} {xs : List (List α)} {S1 : List HP} (i : Nat) (row : List α) (hr : Rem S (hsl (tS t) v xs) S1) (hi : xs[i]? = some row)
    (h : ∀ u, RH P n ops o l K φ (hsl t u row :: hsl (tHole (tS t)) v ((xs.map .inl).set i (.inr [u])) :: S1)) : RH P n ops o l K φ S := by
  refine ⟨fun c a k hl hf hs => ?_⟩
  obtain ⟨fs, f, hs⟩ := hs.rem hr
  obtain ⟨hi', rfl⟩ := List.getElem?_eq_some_iff.1 hi
  obtain ⟨u, gs, h2⟩ := Go.Proofs.Ytodlpdedldhebaa.focusRow hi' hs
  exact (h u).run c a k hl hf ⟨gs, h2⟩

/-- and put back -/
theorem SEnt.unfocusRow {α : Type} {t : TR α} {v u : Value} {xs : List (List α)} {y : List α} {S1 : List HP} {i : Nat} (hi : i < xs.length) :
    SEnt (hsl t u y :: hsl (tHole (tS t)) v ((xs.map .inl).set i (.inr [u])) :: S1) (hsl (tS t) v (xs.set i y) :: S1) := SEnt.elS.trans (SEnt.unfocus hi)
end

section
variable {P : Program} {n : Nat} {φ : Slots} {S : List HP} {d : Option Tmp} {ty : TypeId} {ps : String} {af : Array Edge} {g : Option (Nat × Bool)}
theorem UOp.storeHI {t : TypeId} {x y : Operand} {gg : Bool} {v : Value} {xs : List Int} {i : Nat} {z : Int} {C : HP → List HP} [ht : IsVar P t gg 1]
    (hx : opd φ x = some (vep v 1 i 0)) (hy : opd φ y = some (vint z)) (u' : Plc S (hsl tInt v xs) C) (hi : i < xs.length) : UOp P n φ S ⟨d, .store t x y, ty, ps, af, g⟩ (fun S'' => S'' = C (hsl tInt v (xs.set i z))) :=
  UOp.storeH (rv := fun x => .int .i64 x) hx hy u' hi
end

/-- the same chunks, with no append left -/
inductive AppN : List HP → List HP → Prop
  | nil : AppN [] []
  | cons {h : HP} {S T : List HP} : AppN S T → AppN (h :: S) (h :: T)
  | app0 {S T : List HP} : AppN S T → AppN ([] ++ S) T
  | app {h : HP} {l S T : List HP} : AppN (l ++ S) T → AppN ((h :: l) ++ S) (h :: T)
theorem AppN.eq {S T : List HP} (h : AppN S T) : S = T := by
  induction h with
  | nil => rfl
  | cons _ ih => rw [ih]
  | app0 _ ih => simpa using ih
  | app _ ih => simpa using ih
section
variable {P : Program} {n : Nat} {ops : Array Oper} {l : List Oper} {K : Slots → List HP → Prop} {φ : Slots} {S T : List HP} {id m : Nat} {W : Nat → Bool} {listed : Array Bool}
theorem RL.norm (h : AppN S T) (hr : RL P n ops l K φ T) : RL P n ops l K φ S := h.eq ▸ hr
theorem RD.norm (h : AppN S T) (hr : RD P n id ops W K m listed φ T) : RD P n id ops W K m listed φ S := h.eq ▸ hr
end
end Go.Proofs.Ytodlpdedldhebaa
