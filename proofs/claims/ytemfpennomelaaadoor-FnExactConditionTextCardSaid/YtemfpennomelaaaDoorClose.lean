/- From a contract of a law's function to the row's last step: the call ends, answers true, and leaves every old block as it was. Proved for every program; no conditions. -/
import Derived.Test.YtemfpennomelaaaDoorCoreZ
import Derived.Below
import Derived.ChangeSame
import Derived.ProofKit
import Derived.OpenShut
import Derived.Carry
namespace Go.Proofs.YtemfpennomelaaaDoor
open Go Go.RowKit Go.WideShapes Go.ChangeShapes Go.ChangeAt

/-- the world as a law finds it: all that is there is left as it is -/
abbrev ctxOf (W : World) : Ctx := ⟨fun b => b < W.heap.size, fun _ => False, W⟩

theorem law_calls {P : Program} {f : FuncId} {ps : List VP} (h : Spec P f ps [] (fun r S' => r = vbool true ∧ S' = [])) {W : World} {vs : List Value} (ha : Args (ctxOf W) ps vs) :
    Calls P f vs.toArray W fun e W' => e = .returned (.bool true) ∧ Below W.heap.size W W' := by
  have hs : SH (ctxOf W) [] := ⟨[], .nil, by simp, by simp, fun b hb => hb.elim id False.elim, fun _ _ h => h.elim⟩
  refine (h.run (ctxOf W) vs ha hs).mono fun e w' ⟨v, F', r, S', he, hl, hr, _, hR, _⟩ => ?_
  subst hR
  have : v = .bool true := hr
  subst this
  exact ⟨he, hl.os, hl.tape, hl.output, hl.size, fun k hk => hl.heap k (.inl hk)⟩

section
variable {H : Type} {enc : TypeId × Value → H} {P : Program}
theorem post_below {f : Func} {s : ChangeSpec} {apart fresh handsOn again : Bool} {W W' : World} {args : Array Value} {v : Value} {ds gs : List (DataW H)} {before pa pv : List MemPlace}
    (hW : DataW.Whole enc P f.params.toList s.vars apart W args.toList ds gs before)
    (hres : ∀ (b : Nat) (sp : Nat → Bool) (hd : Bool), DataW.TrodAll enc P W' b sp hd f.resultTypes.toList (v.resultList f.resultTypes.size) (s.fn H (ds ++ gs)).results [])
    (hargs : ∀ sp : Nat → Bool, (∀ p ∈ before, sp p.block = true) → DataW.TrodAll enc P W' 0 sp true f.params.toList args.toList (s.fn H (ds ++ gs)).args pa)
    (hvars : ∀ sp : Nat → Bool, (∀ p ∈ before, sp p.block = true) → DataW.TrodVars enc P W' sp s.vars (s.fn H (ds ++ gs)).vars pv)
    (hps : before = pa ++ pv) (hb : Below W.heap.size W W')
    (hok : ∀ (j : Nat) (t : TypeId) (r : Value), f.resultTypes[j]? = some t → (v.resultList f.resultTypes.size)[j]? = some r → Value.okWide P W' .any 0 t r) :
    s.post enc P f apart fresh handsOn again W args v W' := by
  have hlt : ∀ p ∈ before, p.block < W.heap.size := fun p hp => hW.lt p hp
  have hold : ∀ p ∈ before, (fun b => decide (b < W.heap.size)) p.block = true := fun p hp => by simpa using hlt p hp
  refine ⟨ds, gs, before, [], pa, pv, hW, hres _ _ _, hargs _ hold, hvars _ hold, World.keptBut_mono (fun p hp => ⟨hp, .inr ?_⟩) (hb.frame (· ∈ before)), fun _ => ?_⟩
  · rwa [← List.mem_append, ← hps]
  · obtain ⟨_, _, _, _, _, hz, hn⟩ := hW
    refine ⟨hok, _, _, ([] ++ pa) ++ pv, ⟨[] ++ pa, pv, trodAll_append (hargs _ (fun _ _ => rfl)) (hres _ _ _), hvars _ (fun _ _ => rfl), rfl, fun b off hp => ?_, fun ha => ?_⟩, fun p hp _ => by rw [hps]; simpa using hp⟩
    · have hin : MemPlace.cell b off ∈ before := by rw [hps]; simpa using hp
      rw [hb.frozen (hlt _ hin)]
      exact hz b off hin
    · have := hn ha
      rw [hps] at this
      simpa using this
end

/-! ### what a reading of an argument says -/
/-- the cells of a value of type t read as r y, for some y that is as g says -/
structure Reads (P : Program) (t : TypeId) {α : Type} (r : α → List VP) (g : α → Prop) : Prop where
  read : ∀ {H : Type} {enc : TypeId × Value → H} {W : World} {base : Nat} {sp : Nat → Bool} {held : Bool} {fuel : Nat} {cs : List Value} {x : DataW H × List MemPlace},
    DataW.trod enc P W base sp held fuel t cs = some x → ∃ y, g y ∧ VPs (ctxOf W) (r y) cs

theorem reads_int {P : Program} {t : TypeId} (ht : P.underlying t = some (.int .i64)) : Reads P t (fun n : Int => [vint n]) InR := ⟨fun h => by
  obtain ⟨n, rfl, _, hw⟩ := DataW.trod_int ht h
  simp only [Lit.wf, Bool.and_eq_true, decide_eq_true_eq, IntKind.min, IntKind.max, IntKind.signed, IntKind.bits] at hw
  exact ⟨n, by unfold InR; simpa using hw, .cons rfl .nil⟩⟩
theorem pick_all {α : Type} {R : Nat → α → Prop} : ∀ (n : Nat), (∀ i, i < n → ∃ y, R i y) → ∃ ys : List α, ys.length = n ∧ ∀ i y, ys[i]? = some y → R i y
  | 0, _ => ⟨[], rfl, by simp⟩
  | n + 1, h => by
    obtain ⟨ys, h1, h2⟩ := pick_all n (fun i hi => h i (by omega))
    obtain ⟨y, hy⟩ := h n (by omega)
    refine ⟨ys ++ [y], by simp [h1], fun i z hz => ?_⟩
    rcases Nat.lt_trichotomy i n with hi | rfl | hi
    · rw [List.getElem?_append_left (by omega)] at hz; exact h2 i z hz
    · rw [List.getElem?_append_right (by omega), h1, Nat.sub_self] at hz; simp at hz; subst hz; exact hy
    · rw [List.getElem?_append_right (by omega), h1] at hz
      have : i - n ≠ 0 := by omega
      cases hk : i - n with
      | zero => omega
      | succ m => simp [hk] at hz

theorem reads_slice {P : Program} {t e : TypeId} {k : Nat} {α : Type} {r : α → List VP} {g : α → Prop} (ht : P.underlying t = some (.slice e)) (hk : P.cellsOf e = k) (hpos : 0 < k) (he : Reads P e r g) :
    Reads P t (fun xs : List α => [vsl k r xs]) (fun xs => xs.length ≤ 9223372036854775807 ∧ ∀ x ∈ xs, g x) := ⟨fun {H enc W base sp held fuel cs x} h => by
  subst hk
  rcases DataW.trod_slice ht h with ⟨rfl, _⟩ | ⟨a, len, cap, elems, rest, n, _, rfl, _, _, hlc, hm, hlen, hel, _⟩
  · exact ⟨[], ⟨by simp, by simp⟩, .cons ⟨none, 0, 0, rfl, rfl, .inl rfl⟩ .nil⟩
  · have hk0 : ∀ i, i < len → ∃ y cs, g y ∧ VPs (ctxOf W) (r y) cs ∧ cs.length = P.cellsOf e ∧ ∀ j, j < P.cellsOf e → W.cell? ((a.add (i * P.cellsOf e)).add j) = cs[j]? := fun i hi => by
      have h1 := hel i hi
      rw [List.getElem?_eq_getElem (show i < elems.length by omega), Option.bind_eq_some_iff] at h1
      obtain ⟨cs, h2, h3⟩ := h1
      obtain ⟨y, hg, hv⟩ := he.read h3
      obtain ⟨_, hl, hc⟩ := World.cells?_some h2
      exact ⟨y, cs, hg, hv, hl, hc⟩
    have hk1 : 0 < len → a.spot = none ∧ a.block < W.heap.size := fun h0 => by
      obtain ⟨y, cs, _, _, hl, hc⟩ := hk0 0 h0
      have h1 := hc 0 hpos
      rw [List.getElem?_eq_getElem (show 0 < cs.length by omega), Nat.zero_mul] at h1
      simp only [World.cell?, Addr.add, if_true] at h1
      split at h1
      · rename_i hb
        refine ⟨?_, (Array.getElem?_eq_some_iff.1 hb).1⟩
        cases hs : a.spot with
        | none => rfl
        | some s => simp [hs] at h1
      · cases h1
    have hadd : a.spot = none → ∀ m, a.add m = ⟨a.block, a.off + m, none⟩ := fun hs m => by
      obtain ⟨b, o, s⟩ := a
      simp only at hs; subst hs
      unfold Addr.add
      split
      · rename_i h0; subst h0; rfl
      · rfl
    have hR : ∀ i, i < len → ∃ y, g y ∧ (r y).length = P.cellsOf e ∧ cellsAt (ctxOf W) a.block (a.off + i * P.cellsOf e) (r y) := fun i hi => by
      obtain ⟨y, cs, hg, hv, hl, hc⟩ := hk0 i hi
      obtain ⟨hs, _⟩ := hk1 (by omega)
      have hlen2 : (r y).length = P.cellsOf e := by rw [hv.length, hl]
      refine ⟨y, hg, hlen2, fun j p hp => ?_⟩
      have hj : j < P.cellsOf e := by rw [← hlen2]; exact (List.getElem?_eq_some_iff.1 hp).1
      obtain ⟨v, hv1, hv2⟩ := hv.get j p hp
      refine ⟨v, ?_, hv2⟩
      have := hc j hj
      rw [hv1, hadd hs] at this
      rw [← this]
      unfold Addr.add
      split
      · rename_i h0; subst h0; rfl
      · rfl
    obtain ⟨ys, h1, h2⟩ := pick_all len hR
    refine ⟨ys, ⟨by rw [h1]; exact Nat.le_trans hlc hm, fun y hy => ?_⟩, .cons ⟨some a, len, cap, rfl, h1.symm, ?_⟩ .nil⟩
    · obtain ⟨i, hi⟩ := List.getElem?_of_mem hy
      exact (h2 i y hi).1
    · cases ys with
      | nil => exact .inl rfl
      | cons y ys =>
        obtain ⟨hs, hb⟩ := hk1 (by simp at h1; omega)
        refine .inr ⟨a.block, a.off, by cases a; simp only at hs; rw [hs], hb, by omega, fun i x hx => ?_⟩
        obtain ⟨_, h3, h4⟩ := h2 i x hx
        exact ⟨h3, h4⟩⟩

/-- a struct of two fields -/
theorem reads_pair {P : Program} {t t1 t2 : TypeId} {k1 k2 : Nat} {fs : Array Field} {f1 f2 : Field} {α β : Type} {r1 : α → List VP} {g1 : α → Prop} {r2 : β → List VP} {g2 : β → Prop}
    (ht : P.underlying t = some (.struct fs)) (hf1 : fs[0]? = some f1) (hf2 : fs[1]? = some f2) (e1 : f1.type = t1) (e2 : f2.type = t2) (o1 : f1.offset = 0) (o2 : f2.offset = k1)
    (hk1 : P.cellsOf t1 = k1) (hk2 : P.cellsOf t2 = k2) (hk : P.cellsOf t = k1 + k2) (h1 : Reads P t1 r1 g1) (h2 : Reads P t2 r2 g2) :
    Reads P t (fun y : α × β => r1 y.1 ++ r2 y.2) (fun y => g1 y.1 ∧ g2 y.2) := ⟨fun {H enc W base sp held fuel cs x} h => by
  subst hk1 hk2 e1 e2
  obtain ⟨xs, n, _, _, hl, hxl, hx⟩ := DataW.trod_struct ht h
  have l1 : 0 < xs.length := by rw [hxl]; exact (Array.getElem?_eq_some_iff.1 hf1).1
  have l2 : 1 < xs.length := by rw [hxl]; exact (Array.getElem?_eq_some_iff.1 hf2).1
  have a1 := hx 0 f1 hf1
  have a2 := hx 1 f2 hf2
  rw [List.getElem?_eq_getElem l1, o1] at a1
  rw [List.getElem?_eq_getElem l2, o2] at a2
  obtain ⟨y1, b1, c1⟩ := h1.read a1
  obtain ⟨y2, b2, c2⟩ := h2.read a2
  refine ⟨(y1, y2), ⟨b1, b2⟩, ?_⟩
  have := c1.append c2
  rw [List.drop_zero, List.take_of_length_le (l := cs.drop _) (by rw [List.length_drop]; omega), List.take_append_drop] at this
  exact this⟩

/-- an argument -/
structure ArgOf (P : Program) (t : TypeId) {α : Type} (p : α → VP) (g : α → Prop) : Prop where
  arg : ∀ {H : Type} {enc : TypeId × Value → H} {W : World} {base : Nat} {sp : Nat → Bool} {held : Bool} {b0 : Nat} {v : Value} {d : DataW H} {ps : List MemPlace},
    Value.okWide P W .any b0 t v → DataW.Trod enc P W base sp held t v d ps → ∃ y, g y ∧ (p y).p (ctxOf W) v
theorem argOf_struct {P : Program} {t : TypeId} {fs : Array Field} {α : Type} {r : α → List VP} {g : α → Prop} (ht : P.underlying t = some (.struct fs)) (he : Reads P t r g) : ArgOf P t (fun y => vagg (r y)) g := ⟨fun hv ⟨fuel, h⟩ => by
  obtain ⟨y, h1, h2⟩ := he.read h
  obtain ⟨cs, rfl, _⟩ := okWide_struct ht hv
  exact ⟨y, h1, cs.toList, by simp, by simpa [Value.cells] using h2⟩⟩

section
variable {H : Type} {enc : TypeId × Value → H} {P : Program}
/-- the arguments read as they did -/
theorem trodAll_stays (hl : laidOutB P = true) {W W' : World} (hb : Below W.heap.size W W') {sp : Nat → Bool} : ∀ {ts : List TypeId} {vs : List Value} {ds : List (DataW H)} {ps : List MemPlace},
    (∀ t ∈ ts, P.readableRec t = true ∧ t < P.types.size) → DataW.TrodAll enc P W 0 (fun _ => true) true ts vs ds ps → (∀ p ∈ ps, p.block < W.heap.size) → (∀ p ∈ ps, sp p.block = true) → DataW.TrodAll enc P W' 0 sp true ts vs ds ps
  | [], _, _, _, _, h, _, _ => by
    obtain ⟨rfl, rfl, rfl⟩ := trodAll_nil h
    exact trodAll_mk0
  | t :: ts, _, _, _, hts, h, hlt, hsp => by
    obtain ⟨v, vs, d, ds, p, q, rfl, rfl, rfl, h1, h2⟩ := trodAll_cons h
    have h3 := hts t (by simp)
    exact trodAll_cons_mk (WideElems.Trod_stays hl h3.1 h3.2 h1 (fun x hx => hb.same (hlt x (by simp [hx]))) (fun x hx => hsp x (by simp [hx])))
      (trodAll_stays hl hb (fun t ht => hts t (by simp [ht])) h2 (fun x hx => hlt x (by simp [hx])) (fun x hx => hsp x (by simp [hx])))
end
end Go.Proofs.YtemfpennomelaaaDoor
