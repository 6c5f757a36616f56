/- Lists whose rows lie elsewhere: reading through them and adding to them; spec.l8Find, l8Put, l8Apply over such lists. Proved for this program; conditions: lists in order, rows of one length. -/
import Derived.Test.YtiifdhdhjioefaaHrow
import Derived.Test.YtiifdhdhjioefaaSetP
import Derived.Test.YtiifdhdhjioefaaAppl
namespace Go.Proofs.Ytiifdhdhjioefaa
open Go Go.Proofs
set_option linter.unusedVariables false
theorem SEnt.nilrows {S : List HP} : SEnt S (hrows [] :: S) := fun c fs hs => ⟨_, hs.cons0 ⟨[], rfl, .nil⟩⟩
theorem rows_append {c : Ctx} : ∀ {a b : PS} {f g : List (List Nat)}, Rows c (tS tInt) (a.map Prod.snd) (a.map fun p => [vsv p.1]) f → Rows c (tS tInt) (b.map Prod.snd) (b.map fun p => [vsv p.1]) g → Rows c (tS tInt) ((a ++ b).map Prod.snd) ((a ++ b).map fun p => [vsv p.1]) (f ++ g)
  | [], b, f, g, h1, h2 => by cases h1; exact h2
  | p :: a, b, _, g, h1, h2 => by
    cases h1 with
    | cons hp hr => exact .cons hp (rows_append hr h2)
theorem SEnt.catrows {a b : PS} {S : List HP} : SEnt (hrows a :: hrows b :: S) (hrows (a ++ b) :: S) := fun c fs hs => by
  obtain ⟨f1, f2, gs, rfl, ⟨fss, rfl, h1⟩, ⟨gss, rfl, h2⟩⟩ := hs.two
  refine ⟨_, SHf.perm (h := hstar (hrows a) (hrows b)) (hs.join ⟨_, _, rfl, ⟨_, rfl, h1⟩, ⟨_, rfl, h2⟩⟩) (.refl _) ⟨_, ?_, rows_append h1 h2⟩⟩
  rw [List.flatten_append]
/-- a list of slice values reads as the rows that they are -/
theorem list_rows {c : Ctx} {v : Value} {O : PS} (h : (vsl 1 (fun s : Sv => [vlit (vsv s)]) (O.map Prod.fst)).p c v) (hr : ∀ p ∈ O, (vsl 1 (fun x : Int => [vint x]) p.2).p c (vsv p.1)) : (vsl 1 (fun t : List Int => [vsl 1 (fun x : Int => [vint x]) t]) (O.map Prod.snd)).p c v := by
  obtain ⟨ao, len, cap, rfl, hl, h2⟩ := h
  refine ⟨ao, len, cap, rfl, by simpa using hl, ?_⟩
  rcases h2 with h2 | ⟨b, o, rfl, h3, h4, hE⟩
  · left
    have : O = [] := by simpa using h2
    subst this; rfl
  · right
    refine ⟨b, o, rfl, h3, by simpa using h4, fun i x hx => ⟨rfl, fun j p hp => ?_⟩⟩
    have hj : j = 0 := by
      have := (List.getElem?_eq_some_iff.1 hp).1
      simpa using this
    subst hj
    cases hp
    rw [List.getElem?_map] at hx
    cases hO : O[i]? with
    | none => rw [hO] at hx; cases hx
    | some q =>
      rw [hO] at hx
      cases hx
      obtain ⟨_, h5⟩ := hE i q.1 (by rw [List.getElem?_map, hO]; rfl)
      obtain ⟨v, h6, h7⟩ := h5 0 _ rfl
      cases h7
      exact ⟨_, h6, hr q (List.mem_of_getElem? hO)⟩
end Go.Proofs.Ytiifdhdhjioefaa
