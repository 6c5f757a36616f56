/- A row of an owned list of rows is taken out where its slice value is read; stores of new rows and of truth values. Proved for every program P; conditions: the index in bounds. -/
import Derived.Test.YtodlpdedldhebaaCoreP
namespace Go.Proofs.Ytodlpdedldhebaa
open Go
set_option linter.unusedVariables false

/-- an operation that yields a value and leaves the world alone; what is owned is told in other words -/
structure VOpF (P : Program) (n : Nat) (φ : Slots) (S : List HP) (o : Oper) (R : VP → List HP → Prop) : Prop where
  run : ∀ c a, FH c n φ a → SH c S → ∃ v r S', (∀ w', Same c.w w' → (execOp a.eval o).run P w' = .ok (.value v) w') ∧ r.p c v ∧ SH c S' ∧ R r S'

section
variable {P : Program} {n : Nat} {ops : Array Oper} {o : Oper} {l : List Oper} {K : Slots → List HP → Prop} {φ : Slots} {S : List HP} {id : Nat} {W : Nat → Bool} {m : Nat} {listed : Array Bool}
theorem RH.valueF {d : Nat} {R : VP → List HP → Prop} (hd : o.dst = some d) (hn : Nat.blt d n = true) (hv : VOpF P n φ S o R) (h : ∀ r S', R r S' → RL P n ops l K ((d, r) :: φ) S') : RH P n ops o l K φ S := by
  refine ⟨fun c a k hl hf hs => ?_⟩
  obtain ⟨v, r, S', he, hr, hs', hR⟩ := hv.run c a hf hs
  unfold Oper.wp
  rw [he c.w (.refl _), Oper.upon_value, hd]
  exact (h r S' hR).run c _ k hl (hf.put (Nat.blt_eq.mp hn) hr) hs'
theorem RD.takeF {d : Nat} {R : VP → List HP → Prop} (i : Nat) (l' : Array Bool) (hi : ops[i]? = some o) (hl : listed.setIfInBounds i true = l') (hw : Wants n ops φ o true) (hd : o.dst = some d) (hn : Nat.blt d n = true) (hr : (Region.ready .any ops listed).contains i = true)
    (D : Array Bool) (hf : freeW ops W D listed i = true) (hv : VOpF P n φ S o R) (h : ∀ r S', R r S' → RD P n id ops W K m l' ((d, r) :: φ) S') : RD P n id ops W K (m + 1) listed φ S := by
  subst hl
  refine ⟨fun c a hfh hs => ?_⟩
  obtain ⟨v, r, S', he, hp, hs', hR⟩ := hv.run c a hfh hs
  have hsel := Region.noSelect_spec (ops := ops) (by simp only [freeW, Bool.and_eq_true] at hf; exact hf.1)
  obtain ⟨f1, f2, f3⟩ := freeW_spec hi (by simp only [freeW, hi, Bool.and_eq_true] at hf; exact Nat.le_of_ble_eq_true hf.2.1) hf
  refine wpAnyM_first hi hsel f1 m listed a c.w f2 f3 (by simpa using hr) (.inl ⟨hw.wanted hfh, he⟩) ?_
  rw [hd]
  exact (h r S' hR).run c _ (hfh.put (Nat.blt_eq.mp hn) hp) hs'
end

section
variable {P : Program} {n : Nat} {φ : Slots} {S : List HP} {d : Option Tmp} {ty : TypeId} {ps : String} {af : Array Edge} {g : Option (Nat × Bool)}
theorem VOpF.loadRow {t : Nat} {x : Operand} {α : Type} {tr : TR α} {v : Value} {xs : List (List α)} {i : Nat} {S1 : List HP} {k' : Nat} [ht : IsVar P t false k'] (hx : opd φ x = some (vep v 1 i 0)) (hr : Rem S (hsl (tS tr) v xs) S1) (hi : i < xs.length) :
    VOpF P n φ S ⟨d, .load t x, ty, ps, af, g⟩ (fun r S' => ∃ u, r = vlit u ∧ S' = hsl tr u (xs[i]'hi) :: hsl (tHole (tS tr)) v ((xs.map .inl).set i (.inr [u])) :: S1) := by
  refine ⟨fun c a hf hs => ?_⟩
  obtain ⟨fs, f, hs⟩ := hs.rem hr
  obtain ⟨u, gs, h2⟩ := Go.Proofs.Ytodlpdedldhebaa.focusRow hi hs
  obtain ⟨w, h3, h4⟩ := (VOp.loadHole (P := P) (n := n) (φ := φ) (d := d) (ty := ty) (ps := ps) (af := af) (g := g) (t := t) (tr := tS tr) (us := [u]) (u := u) hx (.tail .head) rfl hi rfl).run c a hf ⟨gs, h2⟩
  exact ⟨w, vlit u, _, h3, h4, ⟨gs, h2⟩, u, rfl, rfl⟩
theorem UOp.storeHB {t : TypeId} {x y : Operand} {gg : Bool} {v : Value} {xs : List Bool} {i : Nat} {z : Bool} {C : HP → List HP} [ht : IsVar P t gg 1]
    (hx : opd φ x = some (vep v 1 i 0)) (hy : opd φ y = some (vbool z)) (u' : Plc S (hsl tBool v xs) C) (hi : i < xs.length) : UOp P n φ S ⟨d, .store t x y, ty, ps, af, g⟩ (fun S'' => S'' = C (hsl tBool v (xs.set i z))) :=
  UOp.storeH (rv := fun x => .bool x) hx hy u' hi
/-- a row that stands in an array of its own is put in its place -/
theorem UOp.storeRowB {t : TypeId} {x y : Operand} {gg : Bool} {v : Value} {b l1 c1 : Nat} {xs : List (List Bool)} {i : Nat} {el : List Bool} {S1 : List HP} [ht : IsVar P t gg 1]
    (hx : opd φ x = some (vep v 1 i 0)) (hy : opd φ y = some (vsb b l1 c1)) (hp : Pick S [harr b 1 (fun x : Bool => [vbool x]) el (c1 * 1), hsl (tS tBool) v xs] S1) (hl : l1 = el.length) (hi : i < xs.length) :
    UOp P n φ S ⟨d, .store t x y, ty, ps, af, g⟩ (fun S'' => S'' = hsl (tS tBool) v (xs.set i el) :: S1) := by
  refine ⟨fun c a hf ⟨fs, hsf⟩ => ?_⟩
  obtain ⟨gs, hg, _⟩ := hp.sh hsf
  obtain ⟨gs2, h2⟩ := (SEnt.pack (rv := fun x => .bool x) (fun _ => rfl) hl) _ _ hg
  exact (UOp.storeRow (P := P) (n := n) (φ := φ) (T := tBool) (el := el) hx hy (.cons .head (.cons .head .nil)) hi).run c a hf ⟨gs2, h2⟩
theorem UOp.storeRowI {t : TypeId} {x y : Operand} {gg : Bool} {v : Value} {b l1 c1 : Nat} {xs : List (List Int)} {i : Nat} {el : List Int} {S1 : List HP} [ht : IsVar P t gg 1]
    (hx : opd φ x = some (vep v 1 i 0)) (hy : opd φ y = some (vsb b l1 c1)) (hp : Pick S [harr b 1 (fun x : Int => [vint x]) el (c1 * 1), hsl (tS tInt) v xs] S1) (hl : l1 = el.length) (hi : i < xs.length) :
    UOp P n φ S ⟨d, .store t x y, ty, ps, af, g⟩ (fun S'' => S'' = hsl (tS tInt) v (xs.set i el) :: S1) := by
  refine ⟨fun c a hf ⟨fs, hsf⟩ => ?_⟩
  obtain ⟨gs, hg, _⟩ := hp.sh hsf
  obtain ⟨gs2, h2⟩ := (SEnt.pack (rv := fun x => .int .i64 x) (fun _ => rfl) hl) _ _ hg
  exact (UOp.storeRow (P := P) (n := n) (φ := φ) (T := tInt) (el := el) hx hy (.cons .head (.cons .head .nil)) hi).run c a hf ⟨gs2, h2⟩
end
end Go.Proofs.Ytodlpdedldhebaa
