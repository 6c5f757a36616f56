/- Rows of one's own apart from their list: lists of slice values, rows beside them. Proved for every program P; no conditions but those that are told. -/
import Derived.Test.YtemfpennomelaaaSortP
namespace Go.Proofs.Ytemfpennomelaaa
open Go Go.Proofs
set_option linter.unusedVariables false
abbrev PS := List (Sv × List Int)
/-- rows, told by the slice values that a list elsewhere holds -/
def hrows (ps : PS) : HP :=
  ⟨fun c fs => ∃ fss : List (List Nat), fs = fss.flatten ∧ Rows c (tS tInt) (ps.map Prod.snd) (ps.map fun p => [vsv p.1]) fss,
   fun {_ _ _} hl hk ⟨fss, e, h⟩ => ⟨fss, e, h.mono hl (fun b hb => hk b (e ▸ hb))⟩⟩
theorem SHf.perm {c : Ctx} {S : List HP} {f f' : List Nat} {gs : List (List Nat)} {h k : HP} (hs : SHf c (h :: S) (f :: gs)) (hp : f.Perm f') (hk : k.p c f') : SHf c (k :: S) (f' :: gs) := by
  obtain ⟨ha, hnd, hown, hfro, hdis⟩ := hs
  cases ha with
  | cons _ hr =>
    have hp2 : (f :: gs).flatten.Perm (f' :: gs).flatten := by simp only [List.flatten_cons]; exact hp.append_right _
    exact ⟨.cons hk hr, hp2.nodup_iff.1 hnd, fun b hb => hown b (hp2.mem_iff.2 hb), hfro, hdis⟩
theorem rows_ps {c : Ctx} {xs : List (List Int)} {vss : List (List Value)} {fss : List (List Nat)} (h : Rows c (tS tInt) xs vss fss) : ∃ ps : PS, ps.map Prod.snd = xs ∧ vss = ps.map (fun p => [vsv p.1]) := by
  induction h with
  | nil => exact ⟨[], rfl, rfl⟩
  | @cons x vs f xs vss fss hp _ ih =>
    obtain ⟨ps, h1, h2⟩ := ih
    obtain ⟨v, rfl, h3⟩ := hp
    obtain ⟨ao, cap, rfl⟩ := h3.shape
    exact ⟨((ao, x.length, cap), x) :: ps, by rw [List.map_cons, h1], by rw [List.map_cons, h2]⟩
theorem rows_sv (c : Ctx) : ∀ ps : PS, Rows c tSv (ps.map Prod.fst) (ps.map fun p => [vsv p.1]) (ps.map fun _ => [])
  | [] => .nil
  | p :: ps => .cons ⟨rfl, rfl⟩ (rows_sv c ps)
theorem sv_rows {c : Ctx} {ps : PS} {vss : List (List Value)} {fss : List (List Nat)} (h : Rows c tSv (ps.map Prod.fst) vss fss) : vss = ps.map (fun p => [vsv p.1]) ∧ fss.flatten = [] := by
  induction ps generalizing vss fss with
  | nil => cases h; exact ⟨rfl, rfl⟩
  | cons p ps ih =>
    cases h with
    | cons hp hr =>
      obtain ⟨h1, h2⟩ := ih hr
      obtain ⟨h3, h4⟩ := hp
      exact ⟨by rw [h3, h1]; rfl, by rw [h4]; exact h2⟩
theorem flat_nil (ps : PS) : (ps.map fun _ => ([] : List Nat)).flatten = [] := by
  induction ps with
  | nil => rfl
  | cons p ps ih => exact ih
theorem SHf.unrows {c : Ctx} {S : List HP} {v : Value} {xs : List (List Int)} {fs : List (List Nat)} (hs : SHf c (hsl (tS tInt) v xs :: S) fs) : ∃ ps : PS, ps.map Prod.snd = xs ∧ ∃ gs, SHf c (hsl tSv v (ps.map Prod.fst) :: hrows ps :: S) gs := by
  obtain ⟨f, gs, rfl, h1⟩ := hs.head
  rcases h1 with ⟨rfl, rfl, rfl⟩ | ⟨b, cap, arr, tt, vss, fss, rfl, hb, hsz, hcap, hr, htk, rfl⟩
  · exact ⟨[], rfl, _, SHf.part (f1 := []) (f2 := []) hs (.inl ⟨rfl, rfl, rfl⟩) ⟨[], rfl, .nil⟩⟩
  · obtain ⟨ps, h2, h3⟩ := rows_ps hr
    subst h3
    refine ⟨ps, h2, _, SHf.part (f1 := [b]) (f2 := fss.flatten) hs (.inr ⟨b, cap, arr, tt, ps.map (fun p => [vsv p.1]), ps.map fun _ => [], ?_, hb, hsz, ?_, rows_sv c ps, ?_, ?_⟩) ⟨fss, rfl, by rw [h2]; exact hr⟩⟩
    · rw [← h2]; simp
    · rw [← h2] at hcap; simpa using hcap
    · rw [← h2] at htk
      have htk2 : List.take ((ps.map Prod.snd).length * 1) arr.toList = (ps.map (fun p => [vsv p.1])).flatten := htk
      show List.take ((ps.map Prod.fst).length * 1) arr.toList = (ps.map (fun p => [vsv p.1])).flatten
      simpa using htk2
    · rw [flat_nil]
theorem SEnt.packrows {v : Value} {ps : PS} {S : List HP} : SEnt (hsl tSv v (ps.map Prod.fst) :: hrows ps :: S) (hsl (tS tInt) v (ps.map Prod.snd) :: S) := fun c fs hs => by
  obtain ⟨f1, f2, gs, rfl, h1, fss, rfl, h2⟩ := hs.two
  rcases h1 with ⟨h3, rfl, rfl⟩ | ⟨b, cap, arr, tt, vss, fss0, rfl, hb, hsz, hcap, hr, htk, rfl⟩
  · have : ps = [] := by simpa using h3
    subst this
    cases h2
    exact ⟨_, hs.join (.inl ⟨rfl, rfl, rfl⟩)⟩
  · obtain ⟨rfl, h4⟩ := sv_rows hr
    refine ⟨_, hs.join (.inr ⟨b, cap, arr, tt, _, fss, by simp, hb, hsz, by simpa using hcap, h2, ?_, by rw [h4]; rfl⟩)⟩
    have htk2 : List.take ((ps.map Prod.fst).length * 1) arr.toList = (ps.map (fun p => [vsv p.1])).flatten := htk
    show List.take ((ps.map Prod.snd).length * 1) arr.toList = (ps.map (fun p => [vsv p.1])).flatten
    simpa using htk2
theorem sub_rows {c : Ctx} {ps' ps : PS} (h : ps'.Sublist ps) : ∀ {fss : List (List Nat)}, Rows c (tS tInt) (ps.map Prod.snd) (ps.map fun p => [vsv p.1]) fss → ∃ fss' : List (List Nat), Rows c (tS tInt) (ps'.map Prod.snd) (ps'.map fun p => [vsv p.1]) fss' ∧ fss'.flatten.Sublist fss.flatten := by
  induction h with
  | slnil => intro fss hr; exact ⟨fss, hr, .refl _⟩
  | @cons ps' ps a h ih =>
    intro fss hr
    cases hr with
    | @cons _ _ f _ _ fss hp hr =>
      obtain ⟨fss', h1, h2⟩ := ih hr
      exact ⟨fss', h1, by rw [List.flatten_cons]; exact h2.trans (List.sublist_append_right _ _)⟩
  | @cons_cons ps' ps a h ih =>
    intro fss hr
    cases hr with
    | @cons _ _ f _ _ fss hp hr =>
      obtain ⟨fss', h1, h2⟩ := ih hr
      exact ⟨f :: fss', .cons hp h1, by rw [List.flatten_cons, List.flatten_cons]; exact (List.Sublist.refl f).append h2⟩
theorem SEnt.subrows {ps ps' : PS} {S : List HP} (h : ps'.Sublist ps) : SEnt (hrows ps :: S) (hrows ps' :: S) := fun c fs hs => by
  obtain ⟨f, gs, rfl, fss, rfl, hr⟩ := hs.head
  obtain ⟨fss', h1, h2⟩ := sub_rows h hr
  obtain ⟨ha, hnd, hown, hfro, hdis⟩ := hs
  cases ha with
  | cons _ hr =>
    have h3 : (fss'.flatten :: gs).flatten.Sublist (fss.flatten :: gs).flatten := by simp only [List.flatten_cons]; exact h2.append (.refl _)
    exact ⟨_, .cons ⟨fss', rfl, h1⟩ hr, h3.nodup hnd, fun b hb => hown b (h3.subset hb), hfro, hdis⟩
theorem rows_cut {c : Ctx} : ∀ {p1 p2 : PS} {fss : List (List Nat)}, Rows c (tS tInt) ((p1 ++ p2).map Prod.snd) ((p1 ++ p2).map fun p => [vsv p.1]) fss → ∃ f1 f2, fss = f1 ++ f2 ∧ Rows c (tS tInt) (p1.map Prod.snd) (p1.map fun p => [vsv p.1]) f1 ∧ Rows c (tS tInt) (p2.map Prod.snd) (p2.map fun p => [vsv p.1]) f2
  | [], _, fss, h => ⟨[], fss, rfl, .nil, h⟩
  | p :: p1, p2, _, h => by
    cases h with
    | cons hp hr =>
      obtain ⟨f1, f2, rfl, h1, h2⟩ := rows_cut hr
      exact ⟨_ :: f1, f2, rfl, .cons hp h1, h2⟩
/-- a row put among others -/
theorem SEnt.insrow {p1 p2 : PS} {w : Sv} {t : List Int} {S : List HP} : SEnt (hrows (p1 ++ p2) :: hsl tInt (vsv w) t :: S) (hrows (p1 ++ (w, t) :: p2) :: S) := fun c fs hs => by
  obtain ⟨f1, f2, gs, rfl, ⟨fss, rfl, h1⟩, h2⟩ := hs.two
  obtain ⟨g1, g2, rfl, h3, h4⟩ := rows_cut h1
  have h5 : Rows c (tS tInt) ((p1 ++ (w, t) :: p2).map Prod.snd) ((p1 ++ (w, t) :: p2).map fun p => [vsv p.1]) (g1 ++ f2 :: g2) := by
    rw [List.map_append, List.map_append, List.map_cons, List.map_cons]
    exact h3.append (.cons ⟨vsv w, rfl, h2⟩ h4)
  refine ⟨_, SHf.perm (h := hstar (hrows (p1 ++ p2)) (hsl tInt (vsv w) t)) (hs.join ⟨_, _, rfl, ⟨_, rfl, h1⟩, h2⟩) ?_ ⟨_, rfl, h5⟩⟩
  simp only [List.flatten_append, List.flatten_cons]
  rw [List.append_assoc]
  exact (List.perm_append_comm).append_left _
theorem Run.unrows {P : Program} {n : Nat} {x : Code} {Q : Post} {φ : Slots} {v : Value} {xs : List (List Int)} {S S' : List HP} (hr : Rem S (hsl (tS tInt) v xs) S') (h : ∀ ps : PS, ps.map Prod.snd = xs → Run P n x Q φ (hsl tSv v (ps.map Prod.fst) :: hrows ps :: S')) : Run P n x Q φ S :=
  ⟨fun c a hf hs => by
    obtain ⟨gs, f, h1⟩ := hs.rem hr
    obtain ⟨ps, h2, hs2⟩ := h1.unrows
    exact (h ps h2).run c a hf hs2⟩
theorem RL.unrows {P : Program} {n : Nat} {ops : Array Oper} {l : List Oper} {K : Slots → List HP → Prop} {φ : Slots} {v : Value} {xs : List (List Int)} {S S' : List HP} (hr : Rem S (hsl (tS tInt) v xs) S') (h : ∀ ps : PS, ps.map Prod.snd = xs → RL P n ops l K φ (hsl tSv v (ps.map Prod.fst) :: hrows ps :: S')) : RL P n ops l K φ S :=
  ⟨fun c a k hl hf hs => by
    obtain ⟨gs, f, h1⟩ := hs.rem hr
    obtain ⟨ps, h2, hs2⟩ := h1.unrows
    exact (h ps h2).run c a k hl hf hs2⟩
/-- an owned list is frozen, for a slot that holds it -/
theorem Run.frzSl {P : Program} {n : Nat} {x : Code} {Q : Post} {φ : Slots} {α : Type} {t : TR α} {r : α → List VP} [Frz t r] {v : Value} {xs : List α} {S S' : List HP} (d : Nat) (hd : φ.get d = Option.some (vlit v)) (hr : Rem S (hsl t v xs) S') (h : Run P n x Q ((d, vsl t.k r xs) :: φ) S') : Run P n x Q φ S :=
  Run.weaken (fun c n a hf hs => by
    obtain ⟨gs, f, hs2⟩ := hs.rem hr
    have hf2 : FH c n ((d, vlit v) :: φ) a := ⟨hf.size, hf.defers, fun t' q hq => by
      simp only [Slots.get] at hq
      cases hb : Nat.beq d t' with
      | true => obtain rfl := Nat.eq_of_beq_eq_true hb; simp only [hb, cond_true, Option.some.injEq] at hq; subst hq; exact hf.slot d _ hd
      | false => simp only [hb, cond_false] at hq; exact hf.slot t' q hq⟩
    exact (Ent.frzOne (h := hsl t v xs) fun c f hp hF => ownS.frz (t := t) hp hF) c n a hf2 ⟨_, hs2⟩) h
theorem rows_are {c : Ctx} {ps : PS} {fss : List (List Nat)} (h : Rows c (tS tInt) (ps.map Prod.snd) (ps.map fun p => [vsv p.1]) fss) (hF : ∀ b ∈ fss.flatten, c.F b) : ∀ p ∈ ps, (vsl 1 (fun x : Int => [vint x]) p.2).p c (vsv p.1) := by
  induction ps generalizing fss with
  | nil => intro p hp; cases hp
  | cons q ps ih =>
    cases h with
    | cons hp hr =>
      intro p hpm
      rcases List.mem_cons.1 hpm with rfl | hpm
      · obtain ⟨v, h1, h2⟩ := hp
        injection h1 with h1
        rw [h1]
        exact ownS.frz (t := tInt) h2 (fun b hb => hF b (by simp [hb]))
      · exact ih hr (fun b hb => hF b (by simp [hb])) p hpm
end Go.Proofs.Ytemfpennomelaaa
