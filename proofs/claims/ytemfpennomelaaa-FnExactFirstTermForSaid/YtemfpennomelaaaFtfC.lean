/- Lists of the call's own whose rows are frozen (no row: nil): reading and writing. Proved for every program. -/
import Derived.Test.YtemfpennomelaaaCoreZ
import Derived.Test.YtemfpennomelaaaTypes
namespace Go.Proofs.Ytemfpennomelaaa
open Go Go.Proofs
set_option linter.unusedVariables false
/-- a frozen list of ints; the empty one is nil -/
def vnl (t : List Int) : VP := if t = [] then vlit (.slice none 0 0) else vsl 1 (fun x : Int => [vint x]) t
theorem vnl_nil : vnl [] = vlit (.slice none 0 0) := if_pos rfl
theorem vnl_ne {t : List Int} (h : t ≠ []) : vnl t = vsl 1 (fun x : Int => [vint x]) t := if_neg h
theorem vsl_nil' (c : Ctx) : (vsl 1 (fun x : Int => [vint x]) []).p c (.slice none 0 0) := ⟨none, 0, 0, rfl, rfl, .inl rfl⟩
theorem vnl_vsl {t : List Int} {c : Ctx} {v : Value} (h : (vnl t).p c v) : (vsl 1 (fun x : Int => [vint x]) t).p c v := by
  by_cases e : t = []
  · subst e
    rw [vnl_nil] at h
    cases h
    exact vsl_nil' c
  · rwa [vnl_ne e] at h
theorem vnl_one {t : List Int} {c : Ctx} {v : Value} (h : (vnl t).p c v) : v.oneCell' = true := OneR.one (r := fun t : List Int => [vsl 1 (fun x : Int => [vint x]) t]) c v t _ (by simp) (vnl_vsl h)
instance : OneR (fun t : List Int => [vnl t]) := ⟨fun c v y p hp hv => by cases List.mem_singleton.1 hp; exact vnl_one hv⟩
def tNl : TR (List Int) := tVP 1 (fun t : List Int => [vnl t]) (fun _ => rfl) inferInstance
theorem tNl_p {c : Ctx} {x : List Int} {vs : List Value} {f : List Nat} (h : tNl.p c x vs f) : ∃ v, vs = [v] ∧ f = [] ∧ (vnl x).p c v := by
  obtain ⟨h1, h2⟩ := h
  cases h1 with
  | cons h3 h4 => cases h4; exact ⟨_, rfl, h2, h3⟩
instance : Frz tNl (fun t : List Int => [vsl 1 (fun x : Int => [vint x]) t]) := ⟨fun c x vs f h _ => by
  obtain ⟨v, rfl, _, h2⟩ := tNl_p h
  exact .cons (vnl_vsl h2) .nil⟩
section
variable {P : Program} {n : Nat} {φ : Slots} {S : List HP} {d : Option Tmp} {ty : TypeId} {ps : String} {af : Array Edge} {g : Option (Nat × Bool)}
theorem VOp.loadNl {t : Nat} {x : Operand} {v : Value} {xs : List (List Int)} {i : Nat} {k' : Nat} [ht : IsVar P t false k'] (hx : opd φ x = some (vep v 1 i 0)) (hh : Has S (hsl tNl v xs))
    (hi : i < xs.length) : VOp P n φ S ⟨d, .load t x, ty, ps, af, g⟩ (vnl (xs[i]'hi)) := by
  refine ⟨fun c a hf ⟨fs, hs⟩ => ?_⟩
  obtain ⟨f, _, hp⟩ := hh.get hs.all
  rcases hp with ⟨rfl, _, _⟩ | ⟨b, cap, arr, tt, vss, fss, rfl, hb, hsz, hcap, hr, htk, _⟩
  · simp at hi
  · have hx' : a.eval x = .pointer (some ⟨b, 0 + (i * 1 + 0), none⟩) := hf.opd hx
    rw [Nat.zero_add, Nat.mul_one, Nat.add_zero] at hx'
    obtain ⟨v1, vs, v2, f1, f, f2, rfl, rfl, h3, h4, h5, _⟩ := hr.at i _ (List.getElem?_eq_getElem hi)
    obtain ⟨u, rfl, _, hu⟩ := tNl_p h5
    have hcell : c.w.cell? ⟨b, i, none⟩ = some u := by
      have hk : tNl.k = 1 := rfl
      rw [hk, Nat.mul_one] at h4 htk
      have : (arr.toList.take xs.length)[i]? = some u := by
        rw [htk, List.flatten_append, List.getElem?_append_right (by omega), h4, List.flatten_cons]; simp
      rw [List.getElem?_take, if_pos hi] at this
      rw [cell_row hb]; simpa using this
    exact ⟨_, by intro w' hw'; have h4 := hw'.cell hcell; simp [execOp, hx', Instr.loadAt, Instr.sureAddr, loadVar, ht.g, h4], hu⟩
theorem VOp.loadNlV {t : Nat} {x : Operand} {v : Value} {xs : List (List Int)} {i : Nat} {k' : Nat} [ht : IsVar P t false k'] (hx : opd φ x = some (vep v 1 i 0)) (hh : Has S (hsl tNl v xs))
    (hi : i < xs.length) : VOp P n φ S ⟨d, .load t x, ty, ps, af, g⟩ (vsl 1 (fun x : Int => [vint x]) (xs[i]'hi)) := by
  obtain ⟨h⟩ := VOp.loadNl (P := P) (n := n) (φ := φ) (S := S) (d := d) (ty := ty) (ps := ps) (af := af) (g := g) (t := t) hx hh hi
  refine ⟨fun c a hf hs => ?_⟩
  obtain ⟨v, h1, h2⟩ := h c a hf hs
  exact ⟨v, h1, vnl_vsl h2⟩
theorem UOp.storeNl {t : TypeId} {x y : Operand} {gg : Bool} {v : Value} {xs : List (List Int)} {i : Nat} {z : List Int} {q : VP} {C : HP → List HP} [ht : IsVar P t gg 1]
    (hx : opd φ x = some (vep v 1 i 0)) (hy : opd φ y = some q) (hq : ∀ c u, q.p c u → (vnl z).p c u) (u' : Plc S (hsl tNl v xs) C) (hi : i < xs.length) : UOp P n φ S ⟨d, .store t x y, ty, ps, af, g⟩ (fun S'' => S'' = C (hsl tNl v (xs.set i z))) := by
  refine ⟨fun c a hf hs => ?_⟩
  have u := u'.upd (hsl tNl v (xs.set i z))
  have hz : (vnl z).p c (a.eval y) := hq _ _ (hf.opd hy)
  generalize hw : a.eval y = w at hz
  have h1w : w.oneCell' = true := vnl_one hz
  obtain ⟨fs, hsf⟩ := hs
  obtain ⟨A, B, hS, hS'⟩ := u.split
  subst hS
  rw [hS']
  obtain ⟨f1, f, f2, rfl, hA, hp, hB⟩ := hsf.middle
  rcases hp with ⟨rfl, _, _⟩ | ⟨b, cap, arr, tt, vss, fss, rfl, hb, hsz, hcap, hr, htk, rfl⟩
  · simp at hi
  · have hx' : a.eval x = .pointer (some ⟨b, 0 + (i * 1 + 0), none⟩) := hf.opd hx
    rw [Nat.zero_add, Nat.mul_one, Nat.add_zero] at hx'
    obtain ⟨v1, us, v2, g1, gg', g2, rfl, rfl, h3, h4, h5, h6⟩ := hr.at i _ (List.getElem?_eq_getElem hi)
    have hk : tNl.k = 1 := rfl
    obtain ⟨u0, hus, hg', _⟩ := tNl_p h5
    subst hg'
    have hfitL : xs.length * tNl.k ≤ arr.size := by rw [hsz]; exact Nat.mul_le_mul_right _ hcap
    have hfit : i + [w].length ≤ arr.size := by rw [hk, Nat.mul_one] at hfitL; simp; omega
    have hrun := run_put (P := P) (vs := [w]) hb hfit (by simpa using h1w)
    have hlt : b < c.w.heap.size := (Array.getElem?_eq_some_iff.1 hb).1
    have hbo := hsf.own b (by simp)
    let arr' := (arr.toList.take i ++ [w] ++ arr.toList.drop (i + [w].length)).toArray
    have hl : c.le ⟨c.F, c.U, setW c.w b arr' tt⟩ := ⟨fun _ h => h, rfl, fun k hk => setW_other (fun e => hk.elim (fun h => hbo.1 (e ▸ h)) (fun h => hbo.2.1 (e ▸ h))), by simp [setW_size], rfl, rfl, rfl⟩
    have hnd : (b :: (g1 ++ [] :: g2).flatten).Nodup := by
      have := hsf.nodup
      simp only [List.flatten_append, List.flatten_cons, List.nodup_append] at this
      simpa using this.2.1.1
    have hs' := hsf.replace (h' := hsl tNl (.slice (some ⟨b, 0, none⟩) xs.length cap) (xs.set i z)) (f' := b :: (g1 ++ [] :: g2).flatten) hl hA hB (fun _ => .rfl) (fun k _ hk => setW_other (fun e => by subst e; simp at hk)) (by
        intro k hk
        refine ⟨.inl hk, ?_⟩
        have := (hsf.own k (by rw [List.flatten_append, List.flatten_cons, List.mem_append, List.mem_append]; exact .inr (.inl hk))).2.2
        simpa [setW_size] using this) hnd (by
      have hnew := setW_at (w := c.w) (arr := arr') (t := tt) hlt
      refine .inr ⟨b, cap, arr', tt, v1 ++ [w] :: v2, g1 ++ [] :: g2, by simp, hnew, by rw [← hsz]; exact put_size hfit, by simpa using hcap, ?_, ?_, rfl⟩
      · refine h6 z [w] [] _ ⟨.cons ((vnl z).mono hl.v hz) .nil, rfl⟩ hl.v (fun k hk => setW_other (fun e => ?_)) (fun k hk => setW_other (fun e => ?_))
        · subst e; simp only [List.nodup_cons, List.flatten_append, List.mem_append] at hnd; exact hnd.1 (.inl hk)
        · subst e; simp only [List.nodup_cons, List.flatten_append, List.mem_append, List.flatten_cons] at hnd; exact hnd.1 (.inr (.inr hk))
      · have := rows_put (t := tNl) (ws := [w]) hfitL htk h4 (by rw [hus]; rfl) rfl
        rw [hk, Nat.mul_one] at this
        simpa [hk, arr'] using this)
    refine ⟨_, c.F, _, ?_, hl, ⟨_, hs'⟩, rfl⟩
    have hc1 : w.cells = #[w] := by
      cases w <;> first | rfl | simp [Value.oneCell'] at h1w
    simp [execOp, hx', hw, Instr.storeAt, Instr.sureAddr, storeVar, hc1, ht.s, hrun, arr']
end
/-- a fresh list of nothing -/
theorem SEnt.packNl {β : Type} {r : β → List VP} {x0 : β} {b m l : Nat} {S : List HP} (hr : r x0 = [vlit (.slice none 0 0)]) (hl : l ≤ m) : SEnt (harr b 1 r (List.replicate l x0) (m * 1) :: S) (hsl tNl (.slice (some ⟨b, 0, none⟩) l m) (List.replicate l []) :: S) :=
  SEnt.packRep tNl (z := []) (us := [.slice none 0 0]) (fun c => ⟨.cons (p := vnl []) (by rw [vnl_nil]; rfl) .nil, rfl⟩) hr rfl hl
end Go.Proofs.Ytemfpennomelaaa
