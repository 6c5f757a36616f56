/- Stores of whole elements into owned slices: an element that was made before is put in its place. Proved for every program P; conditions: the index in bounds. -/
import Derived.Test.YtodlpdedldhebaaCoreN
namespace Go.Proofs.Ytodlpdedldhebaa
open Go
set_option linter.unusedVariables false

section
variable {P : Program} {n : Nat} {φ : Slots} {S : List HP} {d : Option Tmp} {ty : TypeId} {ps : String} {af : Array Edge} {g : Option (Nat × Bool)}

/-- the cells of a value, known one by one -/
inductive CellsLit : VP → List Value → Prop
  | one {v : Value} [One (vlit v)] : CellsLit (vlit v) [v]
  | two {u v : Value} [One (vlit u)] [One (vlit v)] : CellsLit (vagg [vlit u, vlit v]) [u, v]

theorem CellsLit.cells {p : VP} {ws : List Value} (h : CellsLit p ws) {c : Ctx} {v : Value} (hp : p.p c v) : v.cells.toList = ws ∧ ∀ u ∈ ws, u.oneCell' = true := by
  cases h with
  | @one w ho =>
    cases hp
    have h1 := ho.one c _ rfl
    have h2 := one_cells (c := c) (p := vlit v) (v := v) rfl
    refine ⟨by rw [h2], by simpa using h1⟩
  | @two u w hu hw =>
    obtain ⟨vs, rfl, h⟩ := hp
    cases h with
    | cons h1 h2 =>
      cases h2 with
      | cons h3 h4 =>
        cases h4
        cases h1; cases h3
        refine ⟨by simp [Value.cells], fun x hx => ?_⟩
        simp only [List.mem_cons, List.not_mem_nil, or_false] at hx
        rcases hx with rfl | rfl
        · exact hu.one c _ rfl
        · exact hw.one c _ rfl

/-- a store into an element that is taken out -/
theorem storeHoleU {t : TypeId} {x y : Operand} {gg : Bool} {α : Type} {T : TR α} {k : Nat} {v : Value} {xs : List α} {i : Nat} {us ws : List Value} {p : VP} {S1 : List HP} [ht : IsVar P t gg k]
    (hx : opd φ x = some (vep v k i 0)) (hy : opd φ y = some p) (hc : CellsLit p ws) (hk : T.k = k) (hw : ws.length = k) (hi : i < xs.length) :
    UOp P n φ (hsl (tHole T) v ((xs.map .inl).set i (.inr us)) :: S1) ⟨d, .store t x y, ty, ps, af, g⟩ (fun S'' => S'' = hsl (tHole T) v ((xs.map .inl).set i (.inr ws)) :: S1) := by
  refine ⟨fun c a hf ⟨fs, hsf⟩ => ?_⟩
  subst hk
  obtain ⟨hcells, hone⟩ := hc.cells (hf.opd hy)
  obtain ⟨f1, f, f2, rfl, hA, hp, hB⟩ := SHf.middle (A := []) hsf
  cases hA
  rcases hp with ⟨h0, _, _⟩ | ⟨b, cap, arr, tt, vss, fss, rfl, hb, hsz, hcap, hr, htk, rfl⟩
  · have := congrArg List.length h0; simp at this; subst this; simp at hi
  · have hx' : a.eval x = .pointer (some ⟨b, 0 + (i * T.k + 0), none⟩) := hf.opd hx
    rw [Nat.zero_add, Nat.add_zero] at hx'
    obtain ⟨v1, us', v2, g1, gg', g2, rfl, rfl, h3, h4, h5, h6⟩ := hr.at i (.inr us) (by simp [hi])
    obtain ⟨rfl, rfl, hul, _⟩ := h5
    have hk : (tHole T).k = T.k := rfl
    have hcap' : xs.length ≤ cap := by simpa using hcap
    have hfitL : xs.length * T.k ≤ arr.size := by rw [hsz]; exact Nat.mul_le_mul_right _ hcap'
    have hfit : i * T.k + ws.length ≤ arr.size := by
      have h7 : (i + 1) * T.k ≤ xs.length * T.k := Nat.mul_le_mul_right _ hi
      rw [Nat.succ_mul] at h7; omega
    have hrun := run_put (P := P) (vs := ws) hb hfit hone
    have hlt : b < c.w.heap.size := (Array.getElem?_eq_some_iff.1 hb).1
    have hbo := hsf.own b (by simp)
    let arr' := (arr.toList.take (i * T.k) ++ ws ++ arr.toList.drop (i * T.k + ws.length)).toArray
    have hl : c.le ⟨c.F, c.U, setW c.w b arr' tt⟩ := ⟨fun _ h => h, rfl, fun k hk => setW_other (fun e => hk.elim (fun h => hbo.1 (e ▸ h)) (fun h => hbo.2.1 (e ▸ h))), by simp [setW_size], rfl, rfl, rfl⟩
    have hnd : (b :: (g1 ++ [] :: g2).flatten).Nodup := by
      have := hsf.nodup
      simp only [List.nil_append, List.flatten_cons, List.nodup_append] at this
      simpa using this.1
    have hlen : ((xs.map Sum.inl).set i (Sum.inr us') : List (α ⊕ List Value)).length = xs.length := by simp
    have hs' := SHf.replace (A := []) (f1 := []) (h' := hsl (tHole T) (.slice (some ⟨b, 0, none⟩) xs.length cap) ((xs.map .inl).set i (.inr ws))) (f' := b :: (g1 ++ [] :: g2).flatten) hl hsf .nil hB (fun _ => .rfl) (fun k _ hk => setW_other (fun e => by subst e; simp at hk)) (by
        intro k hk
        refine ⟨.inl hk, ?_⟩
        have := (hsf.own k (by simp only [List.nil_append, List.flatten_cons, List.mem_append]; exact .inl hk)).2.2
        simpa [setW_size] using this) hnd (by
      have hnew := setW_at (w := c.w) (arr := arr') (t := tt) hlt
      refine .inr ⟨b, cap, arr', tt, v1 ++ ws :: v2, g1 ++ [] :: g2, by simp, hnew, by rw [← hsz]; exact put_size hfit, by simpa using hcap', ?_, ?_, rfl⟩
      · have := h6 (.inr ws) ws [] ⟨c.F, c.U, setW c.w b arr' tt⟩ ⟨rfl, rfl, hw, hone⟩ hl.v (fun k hk => setW_other (fun e => ?_)) (fun k hk => setW_other (fun e => ?_))
        · simpa using this
        · subst e; simp only [List.nodup_cons, List.flatten_append, List.mem_append] at hnd; exact hnd.1 (.inl hk)
        · subst e; simp only [List.nodup_cons, List.flatten_append, List.mem_append, List.flatten_cons] at hnd; exact hnd.1 (.inr (.inr hk))
      · have hfitL' : ((xs.map Sum.inl).set i (Sum.inr us') : List (α ⊕ List Value)).length * (tHole T).k ≤ arr.size := by rw [hlen, hk]; exact hfitL
        have := rows_put (t := tHole T) (ws := ws) hfitL' htk h4 hul hw
        simpa [hk, arr'] using this)
    refine ⟨_, c.F, _, ?_, hl, ⟨_, hs'⟩, by simp⟩
    have e1 : (a.eval y).cells.size = T.k := by rw [← Array.length_toList, hcells, hw]
    simp [execOp, hx', Instr.storeAt, Instr.sureAddr, storeVar, hcells, e1, ht.s, hrun, arr']

/-- an element that was made before is put in its place -/
theorem UOp.storeEl {t : TypeId} {x y : Operand} {gg : Bool} {α : Type} {T : TR α} {k : Nat} {v : Value} {xs : List α} {i : Nat} {ws : List Value} {el : α} {p : VP} {S1 : List HP} [ht : IsVar P t gg k]
    (hx : opd φ x = some (vep v k i 0)) (hy : opd φ y = some p) (hc : CellsLit p ws) (hp : Pick S [hsl T v xs, hel T el ws] S1) (hk : T.k = k) (hi : i < xs.length) :
    UOp P n φ S ⟨d, .store t x y, ty, ps, af, g⟩ (fun S'' => S'' = hsl T v (xs.set i el) :: S1) := by
  refine ⟨fun c a hf ⟨fs, hsf⟩ => ?_⟩
  obtain ⟨gs, hg, _⟩ := hp.sh hsf
  obtain ⟨f, gs', rfl, _⟩ := hg.head
  obtain ⟨us, gs2, _, h2⟩ := focusS hi hg
  obtain ⟨gs3, h3⟩ := SEnt.drop _ _ h2
  have hw : ws.length = k := by
    obtain ⟨gs4, h4⟩ := (SEnt.pick (B := [hel T el ws]) (.cons (.tail .head) .nil)) _ _ h3
    obtain ⟨f4, gs5, _, h5⟩ := h4.head
    rw [← hk]; exact T.len h5
  obtain ⟨w', F', S', he, hl, ⟨gs6, h6⟩, rfl⟩ := (storeHoleU (P := P) (n := n) (φ := φ) (d := d) (ty := ty) (ps := ps) (af := af) (g := g) (t := t) (us := us) hx hy hc hk hw hi).run c a hf ⟨gs3, h3⟩
  obtain ⟨gs7, h7⟩ := (SEnt.pick (B := [hel T el ws]) (.cons (.tail .head) .nil)) _ _ h6
  obtain ⟨gs8, h8⟩ := (SEnt.unfocus hi) _ _ h7
  exact ⟨w', F', _, he, hl, ⟨gs8, h8⟩, rfl⟩

/-- a row is put in its place -/
theorem UOp.storeRow {t : TypeId} {x y : Operand} {gg : Bool} {α : Type} {T : TR α} {v u : Value} {xs : List (List α)} {i : Nat} {el : List α} {S1 : List HP} [ht : IsVar P t gg 1] [One (vlit u)]
    (hx : opd φ x = some (vep v 1 i 0)) (hy : opd φ y = some (vlit u)) (hp : Pick S [hsl T u el, hsl (tS T) v xs] S1) (hi : i < xs.length) :
    UOp P n φ S ⟨d, .store t x y, ty, ps, af, g⟩ (fun S'' => S'' = hsl (tS T) v (xs.set i el) :: S1) := by
  refine ⟨fun c a hf ⟨fs, hsf⟩ => ?_⟩
  obtain ⟨gs, hg, _⟩ := hp.sh hsf
  obtain ⟨gs2, h2⟩ := SEnt.elS _ _ hg
  exact (UOp.storeEl (P := P) (n := n) (φ := φ) (T := tS T) (el := el) (ws := [u]) hx hy CellsLit.one (.cons (.tail .head) (.cons .head .nil)) rfl hi).run c a hf ⟨gs2, h2⟩
end

/-- an array of one and the same element, which owns nothing, as an owned slice -/
theorem SEnt.packRep {α β : Type} (T : TR α) {r : β → List VP} {x0 : β} {z : α} {us : List Value} {b k m l : Nat} {S : List HP} (hz : ∀ c, T.p c z us []) (hr : r x0 = us.map vlit) (hk : T.k = k) (hl : l ≤ m) :
    SEnt (harr b k r (List.replicate l x0) (m * k) :: S) (hsl T (.slice (some ⟨b, 0, none⟩) l m) (List.replicate l z) :: S) := fun c fs hs => by
  subst hk
  obtain ⟨f, gs, rfl, rfl, ⟨arr, tt, hb, hsz, hfit⟩, hE⟩ := hs.head
  have hlen : us.length = T.k := T.len (hz c)
  refine ⟨_, hs.turn (.inr ⟨b, m, arr, tt, List.replicate l us, List.replicate l [], by simp, hb, hsz, by simpa using hl, ?_, ?_, ?_⟩)⟩
  · clear hE hfit hs hl
    induction l with
    | zero => exact .nil
    | succ l ih => exact .cons (hz c) ih
  · simp only [List.length_replicate]
    apply List.ext_getElem?
    intro j
    rw [List.getElem?_take]
    have hfl : (List.replicate l us).flatten.length = l * T.k := by simp [List.length_flatten, hlen]
    by_cases hj : j < l * T.k
    · rw [if_pos hj]
      have hk0 : 0 < T.k := by
        rcases Nat.eq_zero_or_pos T.k with h | h
        · rw [h] at hj; simp at hj
        · exact h
      have hq : j / T.k < l := (Nat.div_lt_iff_lt_mul hk0).2 hj
      have ho : j % T.k < T.k := Nat.mod_lt _ hk0
      obtain ⟨_, h2⟩ := hE (j / T.k) x0 (by simp [hq])
      obtain ⟨v, h3, h4⟩ := h2 (j % T.k) (vlit us[j % T.k]) (by rw [hr]; simp [hlen, ho])
      cases h4
      have hd : 0 + j / T.k * T.k + j % T.k = j := by rw [Nat.zero_add, Nat.mul_comm]; exact Nat.div_add_mod j T.k
      rw [hd, cell_row hb] at h3
      have hrep : ∀ (l j : Nat), j < l * us.length → (List.replicate l us).flatten[j]? = us[j % us.length]? := by
        intro l
        induction l with
        | zero => intro j hj; simp at hj
        | succ l ih =>
          intro j hj
          rw [List.replicate_succ, List.flatten_cons]
          by_cases hju : j < us.length
          · rw [List.getElem?_append_left hju, Nat.mod_eq_of_lt hju]
          · rw [List.getElem?_append_right (by omega), ih (j - us.length) (by rw [Nat.succ_mul] at hj; omega), ← Nat.mod_eq_sub_mod (by omega)]
      rw [hrep l j (by rw [hlen]; exact hj), hlen, List.getElem?_eq_getElem (l := us) (by rw [hlen]; exact ho)]
      simpa using h3
    · rw [if_neg hj, List.getElem?_eq_none (by rw [hfl]; omega)]
  · have : (List.replicate l ([] : List Nat)).flatten = [] := by simp
    rw [this]
end Go.Proofs.Ytodlpdedldhebaa
