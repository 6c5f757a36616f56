/- Frozen rows as elements of owned slices; results that are frozen at once; append of structs with owned rows. Proved for every program P; conditions: indices in bounds, small sizes. -/
import Derived.Test.YtodlpdedldhebaaCoreS
namespace Go.Proofs.Ytodlpdedldhebaa
open Go
set_option linter.unusedVariables false

/-! ### frozen rows as elements -/
def tRow : TR (List Int) := tVP 1 (fun t : List Int => [vsl 1 (fun x : Int => [vint x]) t]) (fun _ => rfl) inferInstance
instance : Frz tRow (fun t : List Int => [vsl 1 (fun x : Int => [vint x]) t]) := ⟨fun c x vs f h _ => h.1⟩
theorem tRow_p {c : Ctx} {x : List Int} {vs : List Value} {f : List Nat} (h : tRow.p c x vs f) : ∃ v, vs = [v] ∧ f = [] ∧ (vsl 1 (fun x : Int => [vint x]) x).p c v := by
  obtain ⟨h1, h2⟩ := h
  cases h1 with
  | cons h3 h4 => cases h4; exact ⟨_, rfl, h2, h3⟩
section
variable {P : Program} {n : Nat} {φ : Slots} {S : List HP} {d : Option Tmp} {ty : TypeId} {ps : String} {af : Array Edge} {g : Option (Nat × Bool)}
theorem VOp.loadRowF {t : Nat} {x : Operand} {v : Value} {xs : List (List Int)} {i : Nat} {k' : Nat} [ht : IsVar P t false k'] (hx : opd φ x = some (vep v 1 i 0)) (hh : Has S (hsl tRow v xs))
    (hi : i < xs.length) : VOp P n φ S ⟨d, .load t x, ty, ps, af, g⟩ (vsl 1 (fun x : Int => [vint x]) (xs[i]'hi)) := by
  refine ⟨fun c a hf ⟨fs, hs⟩ => ?_⟩
  obtain ⟨f, _, hp⟩ := hh.get hs.all
  rcases hp with ⟨rfl, _, _⟩ | ⟨b, cap, arr, tt, vss, fss, rfl, hb, hsz, hcap, hr, htk, _⟩
  · simp at hi
  · have hx' : a.eval x = .pointer (some ⟨b, 0 + (i * 1 + 0), none⟩) := hf.opd hx
    rw [Nat.zero_add, Nat.mul_one, Nat.add_zero] at hx'
    obtain ⟨v1, vs, v2, f1, f, f2, rfl, rfl, h3, h4, h5, _⟩ := hr.at i _ (List.getElem?_eq_getElem hi)
    obtain ⟨u, rfl, _, hu⟩ := tRow_p h5
    have hcell : c.w.cell? ⟨b, i, none⟩ = some u := by
      have hk : tRow.k = 1 := rfl
      rw [hk, Nat.mul_one] at h4 htk
      have : (arr.toList.take xs.length)[i]? = some u := by
        rw [htk, List.flatten_append, List.getElem?_append_right (by omega), h4, List.flatten_cons]; simp
      rw [List.getElem?_take, if_pos hi] at this
      rw [cell_row hb]; simpa using this
    exact ⟨_, by intro w' hw'; have h4 := hw'.cell hcell; simp [execOp, hx', Instr.loadAt, Instr.sureAddr, loadVar, ht.g, h4], hu⟩

theorem VOp.loadHI {t : Nat} {x : Operand} {v : Value} {xs : List Int} {i : Nat} {k' : Nat} [ht : IsVar P t false k'] (hx : opd φ x = some (vep v 1 i 0)) (hh : Has S (hsl tInt v xs))
    (hi : i < xs.length) : VOp P n φ S ⟨d, .load t x, ty, ps, af, g⟩ (vint (xs[i]'hi)) := VOp.loadH (rv := fun x : Int => .int .i64 x) (h1 := fun _ => rfl) hx hh hi
theorem VOp.loadHB {t : Nat} {x : Operand} {v : Value} {xs : List Bool} {i : Nat} {k' : Nat} [ht : IsVar P t false k'] (hx : opd φ x = some (vep v 1 i 0)) (hh : Has S (hsl tBool v xs))
    (hi : i < xs.length) : VOp P n φ S ⟨d, .load t x, ty, ps, af, g⟩ (vbool (xs[i]'hi)) := VOp.loadH (rv := fun x : Bool => .bool x) (h1 := fun _ => rfl) hx hh hi
/-- make, as an operation that leaves what was there as it was -/
theorem EOpS.make {t e k by' : Nat} {z : Value} [ht : IsSlM P t e k by' z] {x y : Operand} {l m : Nat} {α : Type} (r : α → List VP) (x0 : α) (hz : ∀ c, VPs c (r x0) z.cells.toList)
    (hx : opd φ x = some (vint (l : Int))) (hy : opd φ y = some (vint (m : Int))) (hlm : l ≤ m) (hb : by' * m ≤ 140737488355328) (hm : m ≤ 140737488355328) :
    EOpS P n φ S ⟨d, .makeSlice t x y, ty, ps, af, g⟩ (fun q S' => ∃ b, q = vsb b l m ∧ S' = harr b k r (List.replicate m x0) (m * k) :: S) := by
  refine ⟨fun c a hf hs => ?_⟩
  obtain ⟨i, hu, hi, hz0, rfl, rfl, hzs, hk⟩ := ht.ex
  have h1 : a.eval x = .int .i64 l := hf.opd hx
  have h2 : a.eval y = .int .i64 m := hf.opd hy
  have hbb : (i.bytes : Int) * (m : Int) ≤ 281474976710656 := by
    have : (i.bytes : Int) * (m : Int) = ((i.bytes * m : Nat) : Int) := by simp
    rw [this]; omega
  have hrun := run_make (P := P) c.w t e i z hu hi hz0 .i64 .i64 (l : Int) (m : Int) (by omega) (by omega) hbb (by omega)
  simp only [Int.toNat_natCast] at hrun
  obtain ⟨hl, hs'⟩ := hs.new (k := 0) (o := .cells (madeCells z.cells (m * i.size)) e (0, 0)) (h := harr c.w.heap.size i.size r (List.replicate m x0) (m * i.size)) (fun hl =>
    ⟨rfl, ⟨_, _, newW_new, by simp [madeCells], by simp⟩, fun j x hx => by
      have hx' : x = x0 := by
        have := List.mem_of_getElem? hx
        simpa using (List.mem_replicate.1 this).2
      have hj : j < m := by have := (List.getElem?_eq_some_iff.1 hx).1; simpa using this
      subst hx'
      have hlen : (r x).length = i.size := by rw [(hz c).length, Array.length_toList, hzs]
      refine ⟨hlen, fun o p hp => ?_⟩
      have ho : o < i.size := by rw [← hlen]; exact (List.getElem?_eq_some_iff.1 hp).1
      obtain ⟨v, h3, h4⟩ := (hz ⟨c.F, c.U, newW c.w 0 _⟩).get o p hp
      refine ⟨v, ?_, h4⟩
      rw [cell_row newW_new, Nat.zero_add]
      have hlt : j * i.size + o < m * i.size := by
        calc j * i.size + o < j * i.size + i.size := by omega
          _ = (j + 1) * i.size := by rw [Nat.succ_mul]
          _ ≤ m * i.size := Nat.mul_le_mul_right _ hj
      have e1 : (madeCells z.cells (m * i.size))[j * i.size + o]? = some (z.cells[(j * i.size + o) % z.cells.size]!) := by
        simp [madeCells, hlt]
      rw [e1, hzs, mod_at (a := 0) ho]
      have h5 : z.cells[o]? = some v := by simpa using h3
      obtain ⟨h6, h7⟩ := Array.getElem?_eq_some_iff.1 h5
      rw [getElem!_pos z.cells o h6, h7]⟩)
  refine ⟨_, _, c.F, _, _, ?_, hl, ⟨fun b hb => newW_heap hb, by simp [newW]⟩, rfl, hs', _, rfl, rfl⟩
  show Sem.run P (execOp a.eval _) c.w = _
  simp only [execOp, h1, h2, Sem.run_bind, hrun, Result.andThen_ok, Sem.run_pure]
  rfl
/-- append of one frozen row, which a literal of one element holds -/
theorem EOp.appF {t t2 e e2 k2 by' : Nat} {z : Value} [ht : IsSlM P t e 1 by' z] [h2 : IsSl P t2 e2 k2] {x y : Operand} {v : Value} {xs : List (List Int)} {el : List Int} {b2 m2 sz2 : Nat} {S1 : List HP}
    (hx : opd φ x = some (vlit v)) (hy : opd φ y = some (vsb b2 1 m2)) (hp : Pick S [harr b2 1 (fun t : List Int => [vsl 1 (fun x : Int => [vint x]) t]) [el] sz2, hsl tRow v xs] S1)
    (hbound : (xs.length + 1) * by' ≤ 140737488355328) (h63 : xs.length + 1 ≤ 140737488355328) :
    EOp P n φ S ⟨d, .call ⟨.builtin .append, #[x, y], #[t, t2]⟩, ty, ps, af, g⟩ (fun q S' => ∃ s : Sv, q = vlit (vsv s) ∧ S' = hsl tRow (vsv s) (xs ++ [el]) :: S1) := by
  refine ⟨fun c a hf ⟨fs0, hs0⟩ => ?_⟩
  obtain ⟨fs, hs, _⟩ := hp.sh hs0
  obtain ⟨f, gs, rfl, hh⟩ := SHf.head (S := _) hs
  have hh2 := hh
  obtain ⟨rfl, ⟨arr, tt, hb, hsz, hfit⟩, hE⟩ := hh2
  obtain ⟨u, h3, h4⟩ := (hE 0 el rfl).2 0 _ rfl
  have hlit : (harr b2 1 (List.map vlit) [[u]] sz2).p c [b2] := ⟨rfl, ⟨arr, tt, hb, hsz, by simpa using hfit⟩, fun i x hx => by
    match i, hx with
    | 0, hx =>
      cases hx
      refine ⟨rfl, fun j p hp => ?_⟩
      match j, hp with
      | 0, hp => cases hp; exact ⟨u, h3, rfl⟩⟩
  have hs2 : SHf c (hel tRow el [u] :: harr b2 1 (List.map vlit) [[u]] sz2 :: hsl tRow v xs :: S1) ([] :: [b2] :: gs) := (hs.turn hlit).cons0 ⟨.cons h4 .nil, rfl⟩
  have h1 : EOp P n φ (hel tRow el [u] :: harr b2 1 (List.map vlit) [[u]] sz2 :: hsl tRow v xs :: S1) ⟨d, .call ⟨.builtin .append, #[x, y], #[t, t2]⟩, ty, ps, af, g⟩ _ :=
    EOp.appH (tr := tRow) hx hy (.tail .head) (.cons .head (.cons (.tail .head) .nil)) rfl hbound h63
  obtain ⟨u, w', F', r, S', he, hle, hr, ⟨fs', hs'⟩, v', rfl, rfl⟩ := h1.run c a hf ⟨_, hs2⟩
  obtain ⟨f, gs', rfl, hh⟩ := hs'.head
  obtain ⟨ao, cap, rfl⟩ := ownS.shape hh
  obtain ⟨gs2, hg2⟩ := ((SEnt.pick (B := [harr b2 1 (List.map vlit) [[_]] sz2]) (.cons (.tail .head) .nil)).trans SEnt.drop) _ _ hs'
  exact ⟨u, w', F', _, _, he, hle, hr, ⟨gs2, hg2⟩, (ao, (xs ++ [el]).length, cap), rfl, rfl⟩

/-- append of one struct of a number and an owned row, which a literal of one element holds -/
theorem EOp.appPI {t t2 e e2 k2 by' : Nat} {z : Value} [ht : IsSlM P t e 2 by' z] [h2 : IsSl P t2 e2 k2] {x y : Operand} {α : Type} {tr : TR α} {v v1 : Value} {w : Int} {xs : List (Int × List α)} {el : List α} {b2 m2 sz2 : Nat} {S1 : List HP}
    (hx : opd φ x = some (vlit v)) (hy : opd φ y = some (vsb b2 1 m2)) (hp : Pick S [harr b2 2 (List.map vlit) [[.int .i64 w, v1]] sz2, hsl tr v1 el, hsl (tPair tInt (tS tr)) v xs] S1)
    (hbound : (xs.length + 1) * by' ≤ 140737488355328) (h63 : xs.length + 1 ≤ 140737488355328) :
    EOp P n φ S ⟨d, .call ⟨.builtin .append, #[x, y], #[t, t2]⟩, ty, ps, af, g⟩ (fun q S' => ∃ s : Sv, q = vlit (vsv s) ∧ S' = hsl (tPair tInt (tS tr)) (vsv s) (xs ++ [(w, el)]) :: S1) := by
  refine ⟨fun c a hf ⟨fs0, hs0⟩ => ?_⟩
  obtain ⟨fs, hs, _⟩ := hp.sh hs0
  have hE : SEnt (harr b2 2 (List.map vlit) [[.int .i64 w, v1]] sz2 :: hsl tr v1 el :: hsl (tPair tInt (tS tr)) v xs :: S1) (hel (tPair tInt (tS tr)) (w, el) [.int .i64 w, v1] :: hsl (tPair tInt (tS tr)) v xs :: harr b2 2 (List.map vlit) [[.int .i64 w, v1]] sz2 :: S1) :=
    (SEnt.pick (B := [hsl tr v1 el]) (.cons (.tail .head) .nil)).trans (SEnt.elP.trans (SEnt.pick (B := [hel (tPair tInt (tS tr)) (w, el) [.int .i64 w, v1], hsl (tPair tInt (tS tr)) v xs]) (.cons .head (.cons (.tail .head) .nil))))
  obtain ⟨gs, hg⟩ := hE c fs hs
  have h1 : EOp P n φ (hel (tPair tInt (tS tr)) (w, el) [.int .i64 w, v1] :: hsl (tPair tInt (tS tr)) v xs :: harr b2 2 (List.map vlit) [[.int .i64 w, v1]] sz2 :: S1) ⟨d, .call ⟨.builtin .append, #[x, y], #[t, t2]⟩, ty, ps, af, g⟩ _ :=
    EOp.appH (tr := tPair tInt (tS tr)) hx hy (.tail (.tail .head)) (.cons .head (.cons .head .nil)) rfl hbound h63
  obtain ⟨u, w', F', r, S', he, hle, hr, ⟨fs', hs'⟩, v', rfl, rfl⟩ := h1.run c a hf ⟨gs, hg⟩
  obtain ⟨f, gs', rfl, hh⟩ := hs'.head
  obtain ⟨ao, cap, rfl⟩ := ownS.shape hh
  obtain ⟨gs2, hg2⟩ := ((SEnt.pick (B := [harr b2 2 (List.map vlit) [[.int .i64 w, v1]] sz2]) (.cons (.tail .head) .nil)).trans SEnt.drop) _ _ hs'
  exact ⟨u, w', F', _, _, he, hle, hr, ⟨gs2, hg2⟩, (ao, (xs ++ [(w, el)]).length, cap), rfl, rfl⟩
/-- the number at the head of a struct is written -/
theorem UOp.storePI0 {t : TypeId} {x y : Operand} {gg : Bool} {β : Type} {T : TR β} {k : Nat} {v : Value} {xs : List (Int × β)} {i : Nat} {w : Int} {C : HP → List HP} [ht : IsVar P t gg 1]
    (hx : opd φ x = some (vep v k i 0)) (hy : opd φ y = some (vint w)) (u' : Plc S (hsl (tPair tInt T) v xs) C) (hk : (tPair tInt T).k = k) (hi : i < xs.length) : UOp P n φ S ⟨d, .store t x y, ty, ps, af, g⟩ (fun S'' => S'' = C (hsl (tPair tInt T) v (xs.set i (w, (xs[i]'hi).2)))) := by
  refine ⟨fun c a hf hs => ?_⟩
  subst hk
  have u := u'.upd (hsl (tPair tInt T) v (xs.set i (w, (xs[i]'hi).2)))
  have hy' : a.eval y = .int .i64 w := hf.opd hy
  obtain ⟨fs, hsf⟩ := hs
  obtain ⟨A, B, hS, hS'⟩ := u.split
  subst hS
  rw [hS']
  obtain ⟨f1, f, f2, rfl, hA, hp, hB⟩ := hsf.middle
  rcases hp with ⟨rfl, _, _⟩ | ⟨b, cap, arr, tt, vss, fss, rfl, hb, hsz, hcap, hr, htk, rfl⟩
  · simp at hi
  · have hx' : a.eval x = .pointer (some ⟨b, 0 + (i * (tPair tInt T).k + 0), none⟩) := hf.opd hx
    rw [Nat.zero_add, Nat.add_zero] at hx'
    obtain ⟨v1, us, v2, g1, gg', g2, rfl, rfl, h3, h4, h5, h6⟩ := hr.at i _ (List.getElem?_eq_getElem hi)
    obtain ⟨ua, ub, ga, gb, rfl, rfl, ⟨rfl, rfl⟩, h8⟩ := h5
    have hfitL : xs.length * (tPair tInt T).k ≤ arr.size := by rw [hsz]; exact Nat.mul_le_mul_right _ hcap
    have hflen := congrArg List.length htk
    rw [List.length_take, Nat.min_eq_left (by simpa using hfitL)] at hflen
    have hcut : arr.toList = v1.flatten ++ (.int .i64 xs[i].1 :: ub ++ (v2.flatten ++ arr.toList.drop (xs.length * (tPair tInt T).k))) := by
      conv => lhs; rw [← List.take_append_drop (xs.length * (tPair tInt T).k) arr.toList, htk]
      simp
    have hsz2 : arr.size = (v1.flatten ++ (.int .i64 xs[i].1 :: ub ++ (v2.flatten ++ arr.toList.drop (xs.length * (tPair tInt T).k)))).length := by rw [← hcut]; simp
    have hfit : i * (tPair tInt T).k + [Value.int .i64 w].length ≤ arr.size := by
      rw [hsz2]; simp only [List.length_append, List.length_cons, h4, List.length_nil]; omega
    have hrun := run_put (P := P) (vs := [Value.int .i64 w]) hb hfit (by simp [Value.oneCell'])
    have hlt : b < c.w.heap.size := (Array.getElem?_eq_some_iff.1 hb).1
    have hbo := hsf.own b (by simp)
    let arr' := (arr.toList.take (i * (tPair tInt T).k) ++ [Value.int .i64 w] ++ arr.toList.drop (i * (tPair tInt T).k + [Value.int .i64 w].length)).toArray
    have e1 : arr.toList.take (i * (tPair tInt T).k) = v1.flatten := by rw [hcut]; exact List.take_left' h4
    have e2 : arr.toList.drop (i * (tPair tInt T).k + [Value.int .i64 w].length) = ub ++ (v2.flatten ++ arr.toList.drop (xs.length * (tPair tInt T).k)) := by
      conv => lhs; rw [hcut, show v1.flatten ++ (Value.int .i64 xs[i].1 :: ub ++ (v2.flatten ++ arr.toList.drop (xs.length * (tPair tInt T).k))) = (v1.flatten ++ [Value.int .i64 xs[i].1]) ++ (ub ++ (v2.flatten ++ arr.toList.drop (xs.length * (tPair tInt T).k))) by simp]
      exact List.drop_left' (by simp [h4])
    have hl : c.le ⟨c.F, c.U, setW c.w b arr' tt⟩ := ⟨fun _ h => h, rfl, fun k hk => setW_other (fun e => hk.elim (fun h => hbo.1 (e ▸ h)) (fun h => hbo.2.1 (e ▸ h))), by simp [setW_size], rfl, rfl, rfl⟩
    have hnd : (b :: (g1 ++ ([] ++ gb) :: g2).flatten).Nodup := by
      have := hsf.nodup
      simp only [List.flatten_append, List.flatten_cons, List.nodup_append] at this
      simpa using this.2.1.1
    have hs' := hsf.replace (h' := hsl (tPair tInt T) (.slice (some ⟨b, 0, none⟩) xs.length cap) (xs.set i (w, (xs[i]'hi).2))) (f' := b :: (g1 ++ ([] ++ gb) :: g2).flatten) hl hA hB (fun _ => .rfl) (fun k _ hk => setW_other (fun e => by subst e; simp at hk)) (by
        intro k hk
        refine ⟨.inl hk, ?_⟩
        have := (hsf.own k (by rw [List.flatten_append, List.flatten_cons, List.mem_append, List.mem_append]; exact .inr (.inl hk))).2.2
        simpa [setW_size] using this) hnd (by
      have hnew := setW_at (w := c.w) (arr := arr') (t := tt) hlt
      refine .inr ⟨b, cap, arr', tt, v1 ++ (Value.int .i64 w :: ub) :: v2, g1 ++ ([] ++ gb) :: g2, by simp, hnew, by rw [← hsz]; exact put_size hfit, by simpa using hcap, ?_, ?_, rfl⟩
      · have hne : b ∉ gb := fun h => by
          simp only [List.nodup_cons, List.flatten_append, List.mem_append, List.flatten_cons] at hnd
          exact hnd.1 (.inr (.inl (.inr h)))
        refine h6 (w, (xs[i]'hi).2) (Value.int .i64 w :: ub) ([] ++ gb) _ ⟨[.int .i64 w], ub, [], gb, rfl, rfl, ⟨rfl, rfl⟩, T.mono hl.v (fun k hk => setW_other (fun e => hne (e ▸ hk))) h8⟩ hl.v (fun k hk => setW_other (fun e => ?_)) (fun k hk => setW_other (fun e => ?_))
        · subst e; simp only [List.nodup_cons, List.flatten_append, List.mem_append] at hnd; exact hnd.1 (.inl hk)
        · subst e; simp only [List.nodup_cons, List.flatten_append, List.mem_append, List.flatten_cons] at hnd; exact hnd.1 (.inr (.inr hk))
      · have e3 : arr'.toList = (v1 ++ (Value.int .i64 w :: ub) :: v2).flatten ++ arr.toList.drop (xs.length * (tPair tInt T).k) := by
          simp only [arr', e1, e2]; simp
        rw [e3]
        refine List.take_left' ?_
        rw [List.length_set, hflen]; simp)
    refine ⟨_, c.F, _, ?_, hl, ⟨_, hs'⟩, rfl⟩
    have hc1 : (Value.int .i64 w).cells = #[Value.int .i64 w] := rfl
    simp [execOp, hx', hy', Instr.storeAt, Instr.sureAddr, storeVar, ht.s, hc1, hrun, arr']
end

/-! ### frozen at once -/
section
variable {P : Program} {n : Nat} {ops : Array Oper} {l : List Oper} {K : Slots → List HP → Prop} {φ : Slots} {S : List HP} {id m : Nat} {W : Nat → Bool} {listed : Array Bool} {d : Nat}
end

/-! ### rows told by their slice values -/
def tSv : TR Sv := tVal vsv (fun _ => rfl)
instance : NFT tSv := ⟨fun _ _ _ _ _ _ _ _ h => h⟩
instance : Frz tSv (fun s : Sv => [vlit (vsv s)]) := ⟨fun c x vs f h _ => by rw [h.1]; exact .cons rfl .nil⟩
/-- knowledge that lasts: these slice values read as these rows -/
def rowsAre (vals : List Sv) (xs : List (List Int)) : HP :=
  ⟨fun c fs => fs = [] ∧ vals.length = xs.length ∧ ∀ (i : Nat) (s : Sv) (x : List Int), vals[i]? = some s → xs[i]? = some x → (vsl 1 (fun x : Int => [vint x]) x).p c (vsv s),
   fun {_ _ _} hl _ h => ⟨h.1, h.2.1, fun i s x h1 h2 => (vsl 1 (fun x : Int => [vint x]) x).mono hl (h.2.2 i s x h1 h2)⟩⟩
section
variable {P : Program} {n : Nat} {ops : Array Oper} {o : Oper} {l : List Oper} {K : Slots → List HP → Prop} {φ : Slots} {S : List HP} {id m : Nat} {W : Nat → Bool} {listed : Array Bool} {d : Nat}
end
section
variable {P : Program} {n : Nat} {ops : Array Oper} {l : List Oper} {K : Slots → List HP → Prop} {φ : Slots} {S : List HP} {id m : Nat} {W : Nat → Bool} {listed : Array Bool} {d : Nat}
end
section
variable {P : Program} {n : Nat} {φ : Slots} {S : List HP} {d : Option Tmp} {ty : TypeId} {ps : String} {af : Array Edge} {g : Option (Nat × Bool)}
theorem VOp.loadHS {t : Nat} {x : Operand} {v : Value} {xs : List Sv} {i : Nat} {k' : Nat} [ht : IsVar P t false k'] (hx : opd φ x = some (vep v 1 i 0)) (hh : Has S (hsl tSv v xs))
    (hi : i < xs.length) : VOp P n φ S ⟨d, .load t x, ty, ps, af, g⟩ (vlit (vsv (xs[i]'hi))) := VOp.loadH (rv := vsv) (h1 := fun _ => rfl) hx hh hi
/-- append of one known slice value -/
theorem EOp.appSv {t t2 e e2 k2 by' : Nat} {z : Value} [ht : IsSlM P t e 1 by' z] [h2 : IsSl P t2 e2 k2] {x y : Operand} {v : Value} {xs : List Sv} {w : Sv} {b2 m2 sz2 : Nat} {S1 : List HP}
    (hx : opd φ x = some (vlit v)) (hy : opd φ y = some (vsb b2 1 m2)) (hp : Pick S [harr b2 1 (List.map vlit) [[vsv w]] sz2, hsl tSv v xs] S1)
    (hbound : (xs.length + 1) * by' ≤ 140737488355328) (h63 : xs.length + 1 ≤ 140737488355328) :
    EOp P n φ S ⟨d, .call ⟨.builtin .append, #[x, y], #[t, t2]⟩, ty, ps, af, g⟩ (fun q S' => ∃ s : Sv, q = vlit (vsv s) ∧ S' = hsl tSv (vsv s) (xs ++ [w]) :: S1) := by
  refine eopWeaken ((SEnt.pick hp).trans (SEnt.val vsv (fun _ => rfl) w _)) ?_
  refine ⟨fun c a hf ⟨fs0, hs0⟩ => ?_⟩
  have h1 : EOp P n φ (hel tSv w [vsv w] :: harr b2 1 (List.map vlit) [[vsv w]] sz2 :: hsl tSv v xs :: S1) ⟨d, .call ⟨.builtin .append, #[x, y], #[t, t2]⟩, ty, ps, af, g⟩ _ :=
    EOp.appH (tr := tSv) hx hy (.tail .head) (.cons .head (.cons (.tail .head) .nil)) rfl hbound h63
  obtain ⟨u, w', F', r, S', he, hle, hr, ⟨fs', hs'⟩, v', rfl, rfl⟩ := h1.run c a hf ⟨fs0, hs0⟩
  obtain ⟨f, gs', rfl, hh⟩ := hs'.head
  obtain ⟨ao, cap, rfl⟩ := ownS.shape hh
  obtain ⟨gs2, hg2⟩ := ((SEnt.pick (B := [harr b2 1 (List.map vlit) [[vsv w]] sz2]) (.cons (.tail .head) .nil)).trans SEnt.drop) _ _ hs'
  exact ⟨u, w', F', _, _, he, hle, hr, ⟨gs2, hg2⟩, (ao, (xs ++ [w]).length, cap), rfl, rfl⟩
end
end Go.Proofs.Ytodlpdedldhebaa
