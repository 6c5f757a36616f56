/- Lists whose rows lie elsewhere: reading through them and adding to them; spec.l8Find, l8Put, l8Apply over such lists. Proved for this program; conditions: lists in order, rows of one length. -/
import Derived.Test.YtemfpennomelaaaHrow
import Derived.Test.YtemfpennomelaaaSetP
import Derived.Test.YtemfpennomelaaaAppl
namespace Go.Proofs.Ytemfpennomelaaa
open Go Go.Proofs
set_option linter.unusedVariables false
theorem SEnt.nilrows {S : List HP} : SEnt S (hrows [] :: S) := fun c fs hs => ⟨_, hs.cons0 ⟨[], rfl, .nil⟩⟩
theorem rows_append {c : Ctx} : ∀ {a b : PS} {f g : List (List Nat)}, Rows c (tS tInt) (a.map Prod.snd) (a.map fun p => [vsv p.1]) f → Rows c (tS tInt) (b.map Prod.snd) (b.map fun p => [vsv p.1]) g → Rows c (tS tInt) ((a ++ b).map Prod.snd) ((a ++ b).map fun p => [vsv p.1]) (f ++ g)
  | [], b, f, g, h1, h2 => by cases h1; exact h2
  | p :: a, b, _, g, h1, h2 => by
    cases h1 with
    | cons hp hr => exact .cons hp (rows_append hr h2)
theorem SEnt.catrows {a b : PS} {S : List HP} : SEnt (hrows a :: hrows b :: S) (hrows (a ++ b) :: S) := fun c fs hs => by
  obtain ⟨f1, f2, gs, rfl, ⟨fss, rfl, h1⟩, ⟨gss, rfl, h2⟩⟩ := hs.two
  refine ⟨_, SHf.perm (h := hstar (hrows a) (hrows b)) (hs.join ⟨_, _, rfl, ⟨_, rfl, h1⟩, ⟨_, rfl, h2⟩⟩) (.refl _) ⟨_, ?_, rows_append h1 h2⟩⟩
  rw [List.flatten_append]
/-- rows of one's own are lent, with lists of slice values and one more list -/
theorem Spec.lendR {P : Program} {f : FuncId} {args qs : List VP} {B : List HP} {R : VP → List HP → Prop} (a b : PS) (h : Spec P f qs [] R)
    (hq : ∀ c vs gs, Args c args vs → All c B gs → (∀ x ∈ gs.flatten, c.F x) → (∀ p, p ∈ a ∨ p ∈ b → (vsl 1 (fun x : Int => [vint x]) p.2).p c (vsv p.1)) → Args c qs vs) (hR : ∀ r H, R r H → NF r ∧ NFHs H) :
    Spec P f args (hrows a :: hrows b :: B) (fun r S' => ∃ H, R r H ∧ S' = H ++ hrows a :: hrows b :: B) := by
  have h2 := Spec.lend (ps := args) (B := hrows a :: hrows b :: B) (S := []) h ?_ hR
  · rw [List.append_nil] at h2; exact h2
  intro c vs fs ha hB hF
  cases hB with
  | cons h1 hB =>
    cases hB with
    | cons h2 hB =>
      obtain ⟨fss, rfl, h3⟩ := h1
      obtain ⟨gss, rfl, h4⟩ := h2
      refine hq c vs _ ha hB (fun x hx => hF x (by simp only [List.flatten_cons, List.mem_append]; exact .inr (.inr hx))) fun p hp => ?_
      rcases hp with hp | hp
      · exact rows_are h3 (fun x hx => hF x (by simp only [List.flatten_cons, List.mem_append]; exact .inl hx)) p hp
      · exact rows_are h4 (fun x hx => hF x (by simp only [List.flatten_cons, List.mem_append]; exact .inr (.inl hx))) p hp
/-- a list of slice values reads as the rows that they are -/
theorem list_rows {c : Ctx} {v : Value} {O : PS} (h : (vsl 1 (fun s : Sv => [vlit (vsv s)]) (O.map Prod.fst)).p c v) (hr : ∀ p ∈ O, (vsl 1 (fun x : Int => [vint x]) p.2).p c (vsv p.1)) : (vsl 1 (fun t : List Int => [vsl 1 (fun x : Int => [vint x]) t]) (O.map Prod.snd)).p c v := by
  obtain ⟨ao, len, cap, rfl, hl, h2⟩ := h
  refine ⟨ao, len, cap, rfl, by simpa using hl, ?_⟩
  rcases h2 with h2 | ⟨b, o, rfl, h3, h4, hE⟩
  · left
    have : O = [] := by simpa using h2
    subst this; rfl
  · right
    refine ⟨b, o, rfl, h3, by simpa using h4, fun i x hx => ⟨rfl, fun j p hp => ?_⟩⟩
    have hj : j = 0 := by
      have := (List.getElem?_eq_some_iff.1 hp).1
      simpa using this
    subst hj
    cases hp
    rw [List.getElem?_map] at hx
    cases hO : O[i]? with
    | none => rw [hO] at hx; cases hx
    | some q =>
      rw [hO] at hx
      cases hx
      obtain ⟨_, h5⟩ := hE i q.1 (by rw [List.getElem?_map, hO]; rfl)
      obtain ⟨v, h6, h7⟩ := h5 0 _ rfl
      cases h7
      exact ⟨_, h6, hr q (List.mem_of_getElem? hO)⟩
theorem findR_c (O a b : PS) (so w : Sv) (t : List Int) (k : Nat) (hO : ∀ p ∈ O, p ∈ a ∨ p ∈ b) (hw : (w, t) ∈ a ∨ (w, t) ∈ b) (hs : Str (O.map Prod.snd)) (hu : ∀ u ∈ O.map Prod.snd, u.length = k) (ht : t.length = k) (hl : O.length ≤ 1000000) (hk : k ≤ 1000000) :
    Spec Try.prog 23 [vlit (vsv so), vlit (vsv w)] [hrows a, hrows b, hsl tSv (vsv so) (O.map Prod.fst)] (fun r S' => r = vtup [vint (placeOf (O.map Prod.snd) t : Int), vbool (decide (t ∈ O.map Prod.snd))] ∧ S' = [hrows a, hrows b, hsl tSv (vsv so) (O.map Prod.fst)]) := by
  have hc := l8Find_c (O.map Prod.snd) t (by rw [List.length_map]; omega) (by omega) (fun u h => by rw [hu u h, ht]) (str_sorted hs hu)
  refine (Spec.lendR (B := [hsl tSv (vsv so) (O.map Prod.fst)]) a b hc ?_ ?_).mono ?_
  · intro c vs gs ha hB hF hp
    cases ha with
    | cons p1 ha =>
      cases ha with
      | cons p2 ha =>
        cases ha; cases p1; cases p2
        cases hB with
        | cons h0 hB =>
          cases hB
          exact .cons (list_rows (ownS.frz (t := tSv) h0 fun x hx => hF x (by simpa using hx)) fun q hq => hp q (hO q hq)) (.cons (hp (w, t) hw) .nil)
  · rintro r H ⟨rfl, rfl⟩
    exact ⟨inferInstance, inferInstance⟩
  · rintro r S' ⟨H, ⟨rfl, rfl⟩, rfl⟩
    exact ⟨rfl, rfl⟩
theorem applyR_c (n : Int) (os : List (Int × List Int)) (op : Nat) (hop : op < os.length) (ho : os.length ≤ 4611686018427387904) (O a b : PS) (so : Sv) (k : Nat) (hO : ∀ p ∈ O, p ∈ a ∨ p ∈ b) (hap : ApOk n os[op].2 (O.map Prod.snd) k) :
    Spec Try.prog 39 [vagg [vint n, vsl 2 (fun y : Int × (List Int) => [vint y.1, vsl 1 (fun x : Int => [vint x]) y.2]) os], vint (op : Int), vlit (vsv so), vint (k : Int)] [hrows a, hrows b, hsl tSv (vsv so) (O.map Prod.fst)] (fun r S' => ∃ s : Sv, r = vlit (vsv s) ∧ S' = [hsl tInt (vsv s) (applyT n os[op].2 (O.map Prod.snd) k), hrows a, hrows b, hsl tSv (vsv so) (O.map Prod.fst)]) := by
  have hc := l8Apply_c n os op hop ho (O.map Prod.snd) k hap
  refine (Spec.lendR (B := [hsl tSv (vsv so) (O.map Prod.fst)]) a b hc ?_ ?_).mono ?_
  · intro c vs gs ha hB hF hp
    cases ha with
    | cons p1 ha =>
      cases ha with
      | cons p2 ha =>
        cases ha with
        | cons p3 ha =>
          cases p3
          cases hB with
          | cons h0 hB =>
            cases hB
            exact .cons p1 (.cons p2 (.cons (list_rows (ownS.frz (t := tSv) h0 fun x hx => hF x (by simpa using hx)) fun q hq => hp q (hO q hq)) ha))
  · rintro r H ⟨s', rfl, rfl⟩
    exact ⟨inferInstance, inferInstance⟩
  · rintro r S' ⟨H, ⟨s', rfl, rfl⟩, rfl⟩
    exact ⟨s', rfl, rfl⟩
end Go.Proofs.Ytemfpennomelaaa
