/- Owned trees taken apart and put together: packing, one element at a time, append of an owned element. Proved for every program P; conditions: indices in bounds, small sizes. -/
import Derived.Test.YtodlpdedldhebaaCoreL
namespace Go.Proofs.Ytodlpdedldhebaa
open Go
set_option linter.unusedVariables false
set_option linter.unnecessarySimpa false

/-- the chunks S may be seen as the chunks T -/
def SEnt (S T : List HP) : Prop := ∀ c fs, SHf c S fs → ∃ gs, SHf c T gs

theorem SEnt.ent {S T : List HP} (h : SEnt S T) {φ : Slots} : Ent φ S φ T := fun c n a hf ⟨fs, hs⟩ => let ⟨gs, hg⟩ := h c fs hs; ⟨c.F, .refl c, hf, gs, hg⟩

theorem SHf.cons0 {c : Ctx} {S : List HP} {fs : List (List Nat)} {h : HP} (hs : SHf c S fs) (hp : h.p c []) : SHf c (h :: S) ([] :: fs) :=
  ⟨.cons hp hs.all, by simpa using hs.nodup, by simpa using hs.own, hs.fro, hs.dis⟩

theorem SHf.turn {c : Ctx} {S : List HP} {f : List Nat} {fs : List (List Nat)} {h k : HP} (hs : SHf c (h :: S) (f :: fs)) (hk : k.p c f) : SHf c (k :: S) (f :: fs) := by
  obtain ⟨ha, h1, h2, h3, h4⟩ := hs
  cases ha with
  | cons _ hr => exact ⟨.cons hk hr, h1, h2, h3, h4⟩

theorem SHf.head {c : Ctx} {S : List HP} {fs : List (List Nat)} {h : HP} (hs : SHf c (h :: S) fs) : ∃ f gs, fs = f :: gs ∧ h.p c f := by
  obtain ⟨ha, _⟩ := hs
  cases ha with
  | @cons _ f _ gs hp _ => exact ⟨f, gs, rfl, hp⟩

theorem SEnt.nil {α : Type} (t : TR α) (S : List HP) : SEnt S (hsl t (.slice none 0 0) [] :: S) := fun c fs hs => ⟨_, hs.cons0 (.inl ⟨rfl, rfl, rfl⟩)⟩
theorem SEnt.val {α : Type} (rv : α → Value) (ho : ∀ x, (rv x).oneCell' = true) (x : α) (S : List HP) : SEnt S (hel (tVal rv ho) x [rv x] :: S) := fun c fs hs => ⟨_, hs.cons0 ⟨rfl, rfl⟩⟩

/-- an array of known values, as an owned slice -/
theorem SEnt.pack {α : Type} {rv : α → Value} (ho : ∀ x, (rv x).oneCell' = true) {b cap len : Nat} {xs : List α} {S : List HP} (hl : len = xs.length) :
    SEnt (harr b 1 (fun x => [vlit (rv x)]) xs (cap * 1) :: S) (hsl (tVal rv ho) (.slice (some ⟨b, 0, none⟩) len cap) xs :: S) := fun c fs hs => by
  subst hl
  obtain ⟨f, gs, rfl, rfl, ⟨arr, tt, hb, hsz, hfit⟩, hE⟩ := hs.head
  refine ⟨_, hs.turn (.inr ⟨b, cap, arr, tt, xs.map (fun x => [rv x]), xs.map (fun _ => []), rfl, hb, hsz, by simpa using hfit, ?_, ?_, ?_⟩)⟩
  · clear hE hfit hs
    induction xs with
    | nil => exact .nil
    | cons x xs ih => exact .cons (t := tVal rv ho) ⟨rfl, rfl⟩ ih
  · have hk : (tVal rv ho).k = 1 := rfl
    rw [hk]
    simp only [Nat.mul_one] at hfit hsz ⊢
    apply List.ext_getElem?
    intro j
    have e : (xs.map fun x => [rv x]).flatten = xs.map rv := by
      clear hE hfit hs
      induction xs with
      | nil => rfl
      | cons x xs ih => simp [ih]
    rw [e, List.getElem?_take, List.getElem?_map]
    by_cases hj : j < xs.length
    · rw [if_pos hj]
      obtain ⟨_, h2⟩ := hE j _ (List.getElem?_eq_getElem hj)
      obtain ⟨v, h3, h4⟩ := h2 0 _ rfl
      rw [Nat.zero_add, cell_row hb, Nat.mul_one, Nat.add_zero] at h3
      cases h4
      rw [List.getElem?_eq_getElem hj]; simpa using h3
    · rw [if_neg hj, List.getElem?_eq_none (by omega)]; rfl
  · have : (xs.map fun _ => ([] : List Nat)).flatten = [] := by
      clear hE hfit hs
      induction xs with
      | nil => rfl
      | cons x xs ih => simpa using ih
    rw [this]

/-- an owned slice as an element, and back -/
theorem SEnt.elS {α : Type} {t : TR α} {v : Value} {xs : List α} {S : List HP} : SEnt (hsl t v xs :: S) (hel (tS t) xs [v] :: S) := fun c fs hs => by
  obtain ⟨f, gs, rfl, hp⟩ := hs.head
  exact ⟨_, hs.turn ⟨v, rfl, hp⟩⟩
theorem SEnt.unS {α : Type} {t : TR α} {v : Value} {xs : List α} {S : List HP} : SEnt (hel (tS t) xs [v] :: S) (hsl t v xs :: S) := fun c fs hs => by
  obtain ⟨f, gs, rfl, v', h1, h2⟩ := hs.head
  obtain rfl : v = v' := by simpa using h1
  exact ⟨_, hs.turn h2⟩
/-- a struct of a number and an owned slice as an element, and back -/
theorem SEnt.elP {α β : Type} {rv : β → Value} {ho : ∀ x, (rv x).oneCell' = true} {t : TR α} {v : Value} {y : β} {xs : List α} {S : List HP} : SEnt (hsl t v xs :: S) (hel (tPair (tVal rv ho) (tS t)) (y, xs) [rv y, v] :: S) := fun c fs hs => by
  obtain ⟨f, gs, rfl, hp⟩ := hs.head
  exact ⟨_, hs.turn ⟨[rv y], [v], [], f, rfl, rfl, ⟨rfl, rfl⟩, v, rfl, hp⟩⟩
theorem SEnt.pick {S B S0 : List HP} (p : Pick S B S0) : SEnt S (B ++ S0) := fun c fs hs => let ⟨gs, hg, _⟩ := p.sh hs; ⟨gs, hg⟩
theorem SEnt.trans {S T V : List HP} (h : SEnt S T) (k : SEnt T V) : SEnt S V := fun c fs hs => let ⟨gs, hg⟩ := h c fs hs; k c gs hg
theorem SEnt.ch {S T : List HP} (h : Ch S T) : SEnt S T := fun c fs hs => let ⟨gs, hg, _⟩ := h.sh hs; ⟨gs, hg⟩

section
variable {P : Program} {n : Nat} {ops : Array Oper} {o : Oper} {l : List Oper} {K : Slots → List HP → Prop} {φ : Slots} {S : List HP} {Q : Post} {x : Code}

theorem RL.sent {T : List HP} (h : SEnt S T) (hr : RL P n ops l K φ T) : RL P n ops l K φ S := RL.weaken h.ent hr
theorem Run.sent {T : List HP} (h : SEnt S T) (hr : Run P n x Q φ T) : Run P n x Q φ S := Run.weaken h.ent hr

/-- one element is taken out -/
theorem focusS {α : Type} {t : TR α} {v : Value} {xs : List α} {i : Nat} {S1 : List HP} (hi : i < xs.length) {c : Ctx} {f : List Nat} {fs : List (List Nat)} (hs : SHf c (hsl t v xs :: S1) (f :: fs)) :
    ∃ us gs, us.length = t.k ∧ SHf c (hel t (xs[i]'hi) us :: hsl (tHole t) v ((xs.map .inl).set i (.inr us)) :: S1) gs := by
  obtain ⟨ha, hnd, hown, hfro, hdis⟩ := hs
  cases ha with
  | cons hp hr0 =>
    rcases hp with ⟨rfl, _, _⟩ | ⟨b, cap, arr, tt, vss, fss, rfl, hb, hsz, hcap, hr, htk, rfl⟩
    · simp at hi
    · obtain ⟨v1, us, v2, g1, gg, g2, rfl, rfl, h3, h4, h5, h6⟩ := hr.hole.at i (.inl (xs[i]'hi)) (by simp [hi])
      have h5' : t.p c xs[i] us gg := h5
      have hlen := t.len h5'
      have hrow := h6 (.inr us) us [] c ⟨rfl, rfl, hlen, t.one h5'⟩ ⟨fun _ h => h, fun _ _ => rfl⟩ (fun _ _ => rfl) (fun _ _ => rfl)
      refine ⟨us, gg :: (b :: (g1 ++ [] :: g2).flatten) :: fs, hlen, .cons h5' (.cons (.inr ⟨b, cap, arr, tt, v1 ++ us :: v2, g1 ++ [] :: g2, by simp, hb, hsz, by simpa using hcap, hrow, ?_, rfl⟩) hr0), ?_, ?_, hfro, hdis⟩
      · have hk : (tHole t).k = t.k := rfl
        simpa [hk] using htk
      · simp only [List.flatten_cons, List.flatten_append, List.nodup_append, List.nodup_cons, List.mem_append, List.mem_cons, List.cons_append, List.nil_append] at hnd ⊢
        grind
      · intro x hx
        refine hown x ?_
        simp only [List.flatten_cons, List.flatten_append, List.mem_append, List.mem_cons, List.nil_append] at hx ⊢
        grind

theorem RL.focus {α : Type} {t : TR α} {v : Value} {xs : List α} {S1 : List HP} (i : Nat) (hr : Rem S (hsl t v xs) S1) (hi : i < xs.length)
    (h : ∀ us, us.length = t.k → RL P n ops l K φ (hel t (xs[i]'hi) us :: hsl (tHole t) v ((xs.map .inl).set i (.inr us)) :: S1)) : RL P n ops l K φ S := by
  refine ⟨fun c a k hl hf hs => ?_⟩
  obtain ⟨fs, f, hs⟩ := hs.rem hr
  obtain ⟨us, gs, h1, h2⟩ := focusS hi hs
  exact (h us h1).run c a k hl hf ⟨gs, h2⟩

/-- and put back -/
theorem SEnt.unfocus {α : Type} {t : TR α} {v : Value} {xs : List α} {y : α} {us : List Value} {S1 : List HP} {i : Nat} (hi : i < xs.length) :
    SEnt (hel t y us :: hsl (tHole t) v ((xs.map .inl).set i (.inr us)) :: S1) (hsl t v (xs.set i y) :: S1) := fun c fs hs => by
  obtain ⟨ha, hnd, hown, hfro, hdis⟩ := hs
  cases ha with
  | @cons _ gg _ _ hp hr1 =>
    cases hr1 with
    | @cons _ f _ fs hp2 hr0 =>
      rcases hp2 with ⟨h0, _, _⟩ | ⟨b, cap, arr, tt, vss, fss, rfl, hb, hsz, hcap, hr, htk, rfl⟩
      · have := congrArg List.length h0; simp at this; subst this; simp at hi
      · obtain ⟨v1, ws, v2, g1, g0, g2, rfl, rfl, h3, h4, h5, h6⟩ := hr.at i (.inr us) (by simp [hi])
        obtain ⟨rfl, rfl, _, _⟩ := h5
        have hrow := h6 (.inl y) ws gg c hp ⟨fun _ h => h, fun _ _ => rfl⟩ (fun _ _ => rfl) (fun _ _ => rfl)
        have e : ((xs.map Sum.inl).set i (Sum.inr ws)).set i (Sum.inl y) = (xs.set i y).map (Sum.inl : α → α ⊕ List Value) := by simp [List.map_set]
        rw [e] at hrow
        refine ⟨(b :: (g1 ++ gg :: g2).flatten) :: fs, .cons (.inr ⟨b, cap, arr, tt, v1 ++ ws :: v2, g1 ++ gg :: g2, by simp, hb, hsz, by simpa using hcap, hrow.unhole, ?_, rfl⟩) hr0, ?_, ?_, hfro, hdis⟩
        · have hk : (tHole t).k = t.k := rfl
          simpa [hk] using htk
        · simp only [List.flatten_cons, List.flatten_append, List.nodup_append, List.nodup_cons, List.mem_append, List.mem_cons, List.cons_append, List.nil_append] at hnd ⊢
          grind
        · intro x hx
          refine hown x ?_
          simp only [List.flatten_cons, List.flatten_append, List.mem_append, List.mem_cons, List.nil_append] at hx ⊢
          grind
end

section
variable {P : Program} {n : Nat} {φ : Slots} {S : List HP} {d : Option Tmp} {ty : TypeId} {ps : String} {af : Array Edge} {g : Option (Nat × Bool)}

/-- a cell of an element that is taken out -/
theorem VOp.loadHole {t : Nat} {x : Operand} {α : Type} {tr : TR α} {v : Value} {xs : List α} {i o : Nat} {us : List Value} {u : Value} {k k' : Nat} [ht : IsVar P t false k'] (hx : opd φ x = some (vep v k i o)) (hh : Has S (hsl (tHole tr) v ((xs.map .inl).set i (.inr us))))
    (hk : tr.k = k) (hi : i < xs.length) (hu : us[o]? = some u) : VOp P n φ S ⟨d, .load t x, ty, ps, af, g⟩ (vlit u) := by
  refine ⟨fun c a hf ⟨fs, hs⟩ => ?_⟩
  subst hk
  obtain ⟨f, _, hp⟩ := hh.get hs.all
  rcases hp with ⟨h0, _, _⟩ | ⟨b, cap, arr, tt, vss, fss, rfl, hb, hsz, hcap, hr, htk, _⟩
  · have := congrArg List.length h0; simp at this; subst this; simp at hi
  · have hx' : a.eval x = .pointer (some ⟨b, 0 + (i * tr.k + o), none⟩) := hf.opd hx
    rw [Nat.zero_add] at hx'
    obtain ⟨v1, ws, v2, f1, f, f2, rfl, rfl, h3, h4, h5, _⟩ := hr.at i (.inr us) (by simp [hi])
    obtain ⟨rfl, rfl, hlen, _⟩ := h5
    have ho : o < tr.k := by rw [← hlen]; exact (List.getElem?_eq_some_iff.1 hu).1
    have hcell : c.w.cell? ⟨b, i * tr.k + o, none⟩ = some u := by
      have hk : (tHole tr).k = tr.k := rfl
      rw [hk] at h4 htk
      simp only [List.length_set, List.length_map] at htk
      have hlt : i * tr.k + o < xs.length * tr.k := by
        calc i * tr.k + o < i * tr.k + tr.k := by omega
          _ = (i + 1) * tr.k := by rw [Nat.succ_mul]
          _ ≤ xs.length * tr.k := Nat.mul_le_mul_right _ hi
      have : (arr.toList.take (xs.length * tr.k))[i * tr.k + o]? = some u := by
        rw [htk, List.flatten_append, List.getElem?_append_right (by omega), h4, List.flatten_cons, Nat.add_sub_cancel_left, List.getElem?_append_left (by omega)]; exact hu
      rw [List.getElem?_take, if_pos hlt] at this
      rw [cell_row hb]; simpa using this
    exact ⟨_, by intro w' hw'; have h4 := hw'.cell hcell; simp [execOp, hx', Instr.loadAt, Instr.sureAddr, loadVar, ht.g, h4], rfl⟩

theorem run_append_nil {t t2 e k by' : Nat} {z : Value} (ht : IsSlM P t e k by' z) (h2 : ∃ e2, P.underlying t2 = some (.slice e2)) {w : World} {u : Value} {m : Nat} {vs : List Value} (hu : Src P k w u m vs) (hm0 : 0 < m) (hbound : m * by' ≤ 140737488355328) (h63 : m ≤ 140737488355328) :
    ∃ cap' rest, m ≤ cap' ∧ (Builtin.append_ #[t, t2] ty #[.slice none 0 0, u]).run P w = .ok (.slice (some ⟨w.heap.size, 0, none⟩) m cap') (newW w 1 (.cells (vs ++ rest).toArray e)) ∧ (vs ++ rest).length = cap' * k := by
  obtain ⟨i, hu', hi, hz0, rfl, rfl, hzs, hk⟩ := ht.ex
  obtain ⟨e2, h2⟩ := h2
  have hroom : ¬ (m ≤ 0) := by omega
  have hq : ¬ (Question.appendCap m 0 e).forced = true := by simp [Question.forced]
  have hcap : ¬ (281474976710656 < Builtin.nextslicecap m 0 * i.bytes) := by
    have := growslice_fits (need := m) (old := 0) (bytes := i.bytes) (by omega) hbound; omega
  have hmax : ¬ ((9223372036854775807 : Int) < (m : Int)) := by omega
  let cap' := (Question.appendCap m 0 e).cut (w.tape w.drawn (.appendCap m 0 e))
  have hcap' : m ≤ cap' := by show m ≤ m + _; omega
  refine ⟨cap', (Builtin.zeroCells z.cells (cap' - m)).toList, hcap', ?_, ?_⟩
  · have hzero : ∀ w', (zeroValue e).run P w' = .ok z w' := fun w' => by simp [zeroValue, typeInfo, hi, hz0]
    have hzw : ∀ w', (typeInfo e).run P w' = .ok i w' := fun w' => by simp [typeInfo, hi]
    have e2 := hu.cells w.drew rfl
    have hm' : ¬ m = 0 := by omega
    simp only [Builtin.append_]
    simp [run_underlying hu', run_underlying h2, run_sz hi, hu.len, hm', hmax, hzw, hcap, hzero, hq, e2, newRow, run_firstCells_none]
    refine ⟨rfl, ?_⟩
    show ({ w with heap := w.heap.push _, drawn := w.drawn + 1 } : World) = { w with heap := w.heap.push _, drawn := w.drawn + 1 }
    congr 2
    congr 1
    apply Array.ext'
    simp [cap']
  · simp only [List.length_append, hu.size, Array.length_toList, Builtin.zeroCells, Array.size_map, Array.size_range, hzs, ← Nat.add_mul]
    congr 1; omega

/-- append of one owned element -/
theorem EOp.appH {t t2 e e2 k k2 by' : Nat} {z : Value} [ht : IsSlM P t e k by' z] [h2 : IsSl P t2 e2 k2] {x y : Operand} {α : Type} {tr : TR α} {v : Value} {xs : List α} {b2 m2 sz2 : Nat} {us : List Value} {el : α} {S1 : List HP}
    (hx : opd φ x = some (vlit v)) (hy : opd φ y = some (vsb b2 1 m2)) (hsrc : Has S (harr b2 k (List.map vlit) [us] sz2)) (hp : Pick S [hel tr el us, hsl tr v xs] S1) (hk : tr.k = k)
    (hbound : (xs.length + 1) * by' ≤ 140737488355328) (h63 : xs.length + 1 ≤ 140737488355328) :
    EOp P n φ S ⟨d, .call ⟨.builtin .append, #[x, y], #[t, t2]⟩, ty, ps, af, g⟩ (fun q S' => ∃ v', q = vlit v' ∧ S' = hsl tr v' (xs ++ [el]) :: S1) := by
  refine ⟨fun c a hf ⟨fs0, hs0⟩ => ?_⟩
  subst hk
  have h1 : a.eval x = v := hf.opd hx
  have hy' : a.eval y = .slice (some ⟨b2, 0, none⟩) 1 m2 := hf.opd hy
  obtain ⟨f2, _, hsrc'⟩ := hsrc.get hs0.all
  obtain ⟨fs, hs, _⟩ := hp.sh hs0
  obtain ⟨ha, hnd, hown, hfro, hdis⟩ := hs
  cases ha with
  | @cons _ fel _ _ hel hr1 =>
    cases hr1 with
    | @cons _ f _ fs hv hr0 =>
      have hone := tr.one hel
      have hlen := tr.len hel
      have hu : Src P tr.k c.w (.slice (some ⟨b2, 0, none⟩) 1 m2) 1 us := by
        obtain ⟨rfl, ⟨arr2, tt2, hb2, hsz2, hfit2⟩, hE2⟩ := hsrc'
        refine ⟨fun w' => rfl, fun w' hw => ?_, by omega, hone⟩
        refine run_firstCells_some w' tr.k 1 _ 1 m2 us (by omega) (fun j u hj => ?_)
        obtain ⟨v', h3, h4⟩ := (hE2 0 us rfl).2 j (vlit u) (by rw [List.getElem?_map, hj]; rfl)
        cases h4
        rw [add_zero_addr, cell_heap hw, ← h3]; simp
      have hex : ∀ v' w', (Builtin.append_ #[t, t2] ty #[v, .slice (some ⟨b2, 0, none⟩) 1 m2]).run P c.w = .ok v' w' →
          (execOp a.eval ⟨d, .call ⟨.builtin .append, #[x, y], #[t, t2]⟩, ty, ps, af, g⟩).run P c.w = .ok (.value v') w' := fun v' w' h => by
        simp [execOp, resolve, invoke, builtin, h1, hy', h]
      have hnd' := hnd
      have hown' := hown
      simp only [List.flatten_cons, List.nodup_append, List.mem_append] at hnd hown
      rcases hv with ⟨rfl, rfl, rfl⟩ | ⟨b, cap, arr, tt, vss, fss, rfl, hb, hsz, hcap, hr, htk, rfl⟩
      · obtain ⟨cap', rest, hc', hrun, hl'⟩ := run_append_nil (P := P) (ty := ty) ht ⟨e2, h2.u⟩ hu (by omega) (by simpa using hbound) (by simpa using h63)
        have hl : c.le ⟨c.F, c.U, newW c.w 1 (.cells (us ++ rest).toArray e)⟩ := newW_le hfro
        have hsame : ∀ k, k < c.w.heap.size → (newW c.w 1 (.cells (us ++ rest).toArray e)).heap[k]? = c.w.heap[k]? := fun k hk => newW_heap hk
        have hperm : ((c.w.heap.size :: [fel].flatten) :: fs).flatten.Perm (c.w.heap.size :: (fel :: [] :: fs).flatten) := by simp
        have hn : c.w.heap.size ∉ (fel :: [] :: fs).flatten := fun h => by have := (hown' _ h).2.2; omega
        refine ⟨_, _, c.F, _, hsl tr (.slice (some ⟨c.w.heap.size, 0, none⟩) 1 cap') [el] :: S1, hex _ _ hrun, hl, rfl, ⟨(c.w.heap.size :: [fel].flatten) :: fs, .cons (.inr ⟨c.w.heap.size, cap', _, e, [us], [fel], rfl, newW_new, by rw [← hl']; simp, hc', .cons (tr.mono hl.v (fun k hk => hsame k (hown k (.inl hk)).2.2) hel) .nil, ?_, rfl⟩) (hr0.keep hl.v fun k hk => hsame k (hown k (.inr (.inr hk))).2.2), hperm.nodup_iff.2 (List.nodup_cons.2 ⟨hn, hnd'⟩), ?_, fun k hk => Nat.lt_of_lt_of_le (hfro k hk) hl.size, hdis⟩, _, rfl, rfl⟩
        · simp [← hlen]
        · intro k hk
          rcases List.mem_cons.1 (hperm.mem_iff.1 hk) with rfl | hk
          · exact ⟨fun h => by have := hfro _ (.inl h); omega, fun h => by have := hfro _ (.inr h); omega, by simp [newW_size]⟩
          · exact ⟨(hown' k hk).1, (hown' k hk).2.1, Nat.lt_of_lt_of_le (hown' k hk).2.2 hl.size⟩
      · have hkeep : ∀ {w' : World}, (∀ k, k < c.w.heap.size → k ≠ b → w'.heap[k]? = c.w.heap[k]?) → c.le ⟨c.F, c.U, w'⟩ → Rows ⟨c.F, c.U, w'⟩ tr (xs ++ [el]) (vss ++ [us]) (fss ++ [fel]) := fun {w'} hsm hl => by
          refine (hr.mono hl.v (fun k hk => hsm k (hown k (.inr (.inl (by simp only [List.mem_cons]; exact .inr hk)))).2.2 ?_)).append (.cons (tr.mono hl.v (fun k hk => hsm k (hown k (.inl hk)).2.2 ?_) hel) .nil)
          · rintro rfl; have := hnd.2.1.1; simp only [List.nodup_cons] at this; exact this.1 hk
          · rintro rfl; exact hnd.2.2 _ hk _ (.inl (by simp)) rfl
        have hperm : ∀ x, ((x :: (fss ++ [fel]).flatten) :: fs).flatten.Perm (x :: (fel ++ (fss.flatten ++ fs.flatten))) := fun x => by
          rw [List.perm_iff_count]; intro a; simp [List.count_append, List.count_cons]; omega
        have hold : (fel :: (b :: fss.flatten) :: fs).flatten.Perm (b :: (fel ++ (fss.flatten ++ fs.flatten))) := by
          rw [List.perm_iff_count]; intro a; simp [List.count_append, List.count_cons]; omega
        rcases run_append (P := P) (ty := ty) ht ⟨e2, h2.u⟩ hb hsz hcap hu hbound h63 with ⟨hroom, hrun⟩ | ⟨hno, cap', rest, hc', hrun, hl'⟩
        · have hfit : xs.length * tr.k + us.length ≤ arr.size := by rw [hlen, hsz]; have := Nat.mul_le_mul_right tr.k hroom; rw [Nat.add_mul] at this; omega
          have hbo := hown b (.inr (.inl (by simp)))
          have hlt := hbo.2.2
          let arr' := (arr.toList.take (xs.length * tr.k) ++ us ++ arr.toList.drop (xs.length * tr.k + us.length)).toArray
          have hl : c.le ⟨c.F, c.U, setW c.w b arr' tt⟩ := ⟨fun _ h => h, rfl, fun k hk => setW_other (fun e => hk.elim (fun h => hbo.1 (e ▸ h)) (fun h => hbo.2.1 (e ▸ h))), by simp [setW_size], rfl, rfl, rfl⟩
          refine ⟨_, _, c.F, _, hsl tr (.slice (some ⟨b, 0, none⟩) (xs.length + 1) cap) (xs ++ [el]) :: S1, hex _ _ hrun, hl, rfl, ⟨(b :: (fss ++ [fel]).flatten) :: fs, .cons (.inr ⟨b, cap, arr', tt, vss ++ [us], fss ++ [fel], by simp, setW_at hlt, by rw [← hsz]; exact put_size hfit, by simpa using hroom, hkeep (fun k _ hk => setW_other hk) hl, ?_, rfl⟩) (hr0.keep hl.v fun k hk => setW_other ?_), (hperm b).nodup_iff.2 (hold.nodup_iff.1 hnd'), ?_, fun k hk => Nat.lt_of_lt_of_le (hfro k hk) hl.size, hdis⟩, _, rfl, rfl⟩
          · have e1 : (arr.toList.take (xs.length * tr.k)).length = xs.length * tr.k := by have := Nat.mul_le_mul_right tr.k hcap; rw [List.length_take, Nat.min_eq_left (by simpa [hsz] using this)]
            have : (xs ++ [el]).length * tr.k = xs.length * tr.k + us.length := by simp [Nat.add_mul, hlen]
            rw [this]
            show List.take _ (arr.toList.take (xs.length * tr.k) ++ us ++ arr.toList.drop (xs.length * tr.k + us.length)) = _
            rw [List.take_append_of_le_length (by simp [e1]), List.take_of_length_le (by simp [e1]), htk]; simp
          · rintro rfl; exact hnd.2.1.2.2 _ (by simp) _ hk rfl
          · intro k hk
            have := hown' k (hold.mem_iff.2 ((hperm b).mem_iff.1 hk))
            exact ⟨this.1, this.2.1, Nat.lt_of_lt_of_le this.2.2 hl.size⟩
        · have hl : c.le ⟨c.F, c.U, newW c.w 1 (.cells (arr.toList.take (xs.length * tr.k) ++ us ++ rest).toArray e)⟩ := newW_le hfro
          have hsame : ∀ k, k < c.w.heap.size → (newW c.w 1 (.cells (arr.toList.take (xs.length * tr.k) ++ us ++ rest).toArray e)).heap[k]? = c.w.heap[k]? := fun k hk => newW_heap hk
          have hrestown : ∀ k, k ∈ fel ++ (fss.flatten ++ fs.flatten) → ¬ c.F k ∧ ¬ c.U k ∧ k < c.w.heap.size := fun k hk => hown' k (hold.mem_iff.2 (List.mem_cons_of_mem _ hk))
          have hn : c.w.heap.size ∉ fel ++ (fss.flatten ++ fs.flatten) := fun h => by have := (hrestown _ h).2.2; omega
          refine ⟨_, _, c.F, _, hsl tr (.slice (some ⟨c.w.heap.size, 0, none⟩) (xs.length + 1) cap') (xs ++ [el]) :: S1, hex _ _ hrun, hl, rfl, ⟨(c.w.heap.size :: (fss ++ [fel]).flatten) :: fs, .cons (.inr ⟨c.w.heap.size, cap', _, e, vss ++ [us], fss ++ [fel], by simp, newW_new, by simpa using hl', by simpa using hc', hkeep (fun k hk _ => hsame k hk) hl, ?_, rfl⟩) (hr0.keep hl.v fun k hk => hsame k (hown k (.inr (.inr hk))).2.2), (hperm _).nodup_iff.2 (List.nodup_cons.2 ⟨hn, (List.nodup_cons.1 (hold.nodup_iff.1 hnd')).2⟩), ?_, fun k hk => Nat.lt_of_lt_of_le (hfro k hk) hl.size, hdis⟩, _, rfl, rfl⟩
          · have e1 : (arr.toList.take (xs.length * tr.k)).length = xs.length * tr.k := by have := Nat.mul_le_mul_right tr.k hcap; rw [List.length_take, Nat.min_eq_left (by simpa [hsz] using this)]
            have : (xs ++ [el]).length * tr.k = xs.length * tr.k + us.length := by simp [Nat.add_mul, hlen]
            rw [this]
            show List.take _ (arr.toList.take (xs.length * tr.k) ++ us ++ rest) = _
            rw [List.take_append_of_le_length (by simp [e1]), List.take_of_length_le (by simp [e1]), htk]; simp
          · intro k hk
            rcases List.mem_cons.1 ((hperm _).mem_iff.1 hk) with rfl | hk
            · exact ⟨fun h => by have := hfro _ (.inl h); omega, fun h => by have := hfro _ (.inr h); omega, by simp [newW_size]⟩
            · have := hrestown k hk
              exact ⟨this.1, this.2.1, Nat.lt_of_lt_of_le this.2.2 hl.size⟩
end
end Go.Proofs.Ytodlpdedldhebaa
