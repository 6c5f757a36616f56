/- Owned trees: slices whose elements own memory of their own; borrowing owned memory for a call. Proved for every program P; conditions: small sizes. -/
import Derived.Test.YtodlpdedldhebaaCoreJ
namespace Go.Proofs.Ytodlpdedldhebaa
open Go
set_option linter.unusedVariables false

/-- how an element is laid out: its cells and the blocks that it owns -/
structure TR (α : Type) where
  k : Nat
  p : Ctx → α → List Value → List Nat → Prop
  mono : ∀ {c c' : Ctx} {x : α} {vs : List Value} {f : List Nat}, c.leV c' → (∀ b ∈ f, c'.w.heap[b]? = c.w.heap[b]?) → p c x vs f → p c' x vs f
  len : ∀ {c : Ctx} {x : α} {vs : List Value} {f : List Nat}, p c x vs f → vs.length = k
  one : ∀ {c : Ctx} {x : α} {vs : List Value} {f : List Nat}, p c x vs f → ∀ v ∈ vs, v.oneCell' = true

/-- elements side by side -/
inductive Rows (c : Ctx) {α : Type} (t : TR α) : List α → List (List Value) → List (List Nat) → Prop
  | nil : Rows c t [] [] []
  | cons {x : α} {vs : List Value} {f : List Nat} {xs : List α} {vss : List (List Value)} {fss : List (List Nat)} : t.p c x vs f → Rows c t xs vss fss → Rows c t (x :: xs) (vs :: vss) (f :: fss)

theorem Rows.mono {c c' : Ctx} {α : Type} {t : TR α} (hl : c.leV c') {xs : List α} {vss : List (List Value)} {fss : List (List Nat)} (h : Rows c t xs vss fss) (hk : ∀ b ∈ fss.flatten, c'.w.heap[b]? = c.w.heap[b]?) : Rows c' t xs vss fss := by
  induction h with
  | nil => exact .nil
  | @cons x vs f xs vss fss hp _ ih =>
    refine .cons (t.mono hl (fun b hb => hk b (by simp [hb])) hp) (ih fun b hb => hk b ?_)
    simp only [List.flatten_cons, List.mem_append]; exact .inr hb

theorem Rows.append {c : Ctx} {α : Type} {t : TR α} {xs ys : List α} {vss wss : List (List Value)} {fss gss : List (List Nat)} (h : Rows c t xs vss fss) (k : Rows c t ys wss gss) : Rows c t (xs ++ ys) (vss ++ wss) (fss ++ gss) := by
  induction h with
  | nil => exact k
  | cons hp _ ih => exact .cons hp ih

theorem Rows.at {c : Ctx} {α : Type} {t : TR α} {xs : List α} {vss : List (List Value)} {fss : List (List Nat)} (h : Rows c t xs vss fss) : ∀ (i : Nat) (x : α), xs[i]? = some x →
    ∃ v1 vs v2 f1 f f2, vss = v1 ++ vs :: v2 ∧ fss = f1 ++ f :: f2 ∧ v1.length = i ∧ v1.flatten.length = i * t.k ∧ t.p c x vs f ∧ ∀ y ws g c', t.p c' y ws g → c.leV c' → (∀ b ∈ f1.flatten, c'.w.heap[b]? = c.w.heap[b]?) → (∀ b ∈ f2.flatten, c'.w.heap[b]? = c.w.heap[b]?) → Rows c' t (xs.set i y) (v1 ++ ws :: v2) (f1 ++ g :: f2) := by
  induction h with
  | nil => intro i x hx; simp at hx
  | @cons x0 vs f xs vss fss hp hr ih =>
    intro i x hx
    cases i with
    | zero =>
      simp only [List.getElem?_cons_zero, Option.some.injEq] at hx; subst hx
      exact ⟨[], vs, vss, [], f, fss, rfl, rfl, rfl, by simp, hp, fun y ws g c' hy hl _ h2 => .cons hy (hr.mono hl h2)⟩
    | succ i =>
      obtain ⟨v1, us, v2, f1, g, f2, rfl, rfl, h3, h4, h5, h6⟩ := ih i x (by simpa using hx)
      refine ⟨vs :: v1, us, v2, f :: f1, g, f2, rfl, rfl, by simp [h3], by simp only [List.flatten_cons, List.length_append, t.len hp, h4, Nat.succ_mul]; omega, h5, fun y ws g' c' hy hl h1 h2 => ?_⟩
      refine .cons (t.mono hl (fun b hb => h1 b (by simp [hb])) hp) (h6 y ws g' c' hy hl (fun b hb => h1 b ?_) h2)
      simp only [List.flatten_cons, List.mem_append]; exact .inr hb

/-- a slice value (nil if empty, perhaps) that owns its array and its elements -/
def ownS {α : Type} (t : TR α) (c : Ctx) (v : Value) (xs : List α) (f : List Nat) : Prop :=
  (xs = [] ∧ v = .slice none 0 0 ∧ f = []) ∨
  ∃ b cap arr tt vss fss, v = .slice (some ⟨b, 0, none⟩) xs.length cap ∧ c.w.heap[b]? = some (.cells arr tt (0, 0)) ∧ arr.size = cap * t.k ∧ xs.length ≤ cap ∧
    Rows c t xs vss fss ∧ arr.toList.take (xs.length * t.k) = vss.flatten ∧ f = b :: fss.flatten

theorem ownS.mono {α : Type} {t : TR α} {c c' : Ctx} {v : Value} {xs : List α} {f : List Nat} (hl : c.leV c') (hk : ∀ b ∈ f, c'.w.heap[b]? = c.w.heap[b]?) (h : ownS t c v xs f) : ownS t c' v xs f := by
  rcases h with h | ⟨b, cap, arr, tt, vss, fss, h1, h2, h3, h4, h5, h6, rfl⟩
  · exact .inl h
  · exact .inr ⟨b, cap, arr, tt, vss, fss, h1, (hk b (by simp)).trans h2, h3, h4, h5.mono hl (fun x hx => hk x (by simp only [List.mem_cons]; exact .inr hx)), h6, rfl⟩

theorem ownS.shape {α : Type} {t : TR α} {c : Ctx} {v : Value} {xs : List α} {f : List Nat} (h : ownS t c v xs f) : ∃ ao cap, v = .slice ao xs.length cap := by
  rcases h with ⟨rfl, rfl, _⟩ | ⟨b, cap, _, _, _, _, rfl, _⟩
  · exact ⟨none, 0, rfl⟩
  · exact ⟨_, cap, rfl⟩

def hsl {α : Type} (t : TR α) (v : Value) (xs : List α) : HP := ⟨fun c f => ownS t c v xs f, fun {_ _ _} hl hk h => h.mono hl hk⟩

/-- an element that owns its memory, its cells being vs -/
def hel {α : Type} (t : TR α) (x : α) (vs : List Value) : HP := ⟨fun c f => t.p c x vs f, fun {_ _ _} hl hk h => t.mono hl hk h⟩

/-! ### layouts -/
def tVal {α : Type} (r : α → Value) (h : ∀ x, (r x).oneCell' = true) : TR α :=
  ⟨1, fun _ x vs f => vs = [r x] ∧ f = [], fun _ _ h => h, fun h => by rw [h.1]; rfl, fun {_ x _ _} k v hv => by rw [k.1, List.mem_singleton] at hv; rw [hv]; exact h x⟩
def tInt : TR Int := tVal (fun x => .int .i64 x) (fun _ => rfl)
def tBool : TR Bool := tVal (fun x => .bool x) (fun _ => rfl)

/-- a slice as an element -/
def tS {α : Type} (t : TR α) : TR (List α) :=
  ⟨1, fun c xs vs f => ∃ v, vs = [v] ∧ ownS t c v xs f, fun {_ _ _ _ _} hl hk ⟨v, h1, h2⟩ => ⟨v, h1, h2.mono hl hk⟩, fun ⟨v, h, _⟩ => by rw [h]; rfl,
   fun ⟨v, h, h2⟩ u hu => by rw [h, List.mem_singleton] at hu; rw [hu]; obtain ⟨_, _, rfl⟩ := h2.shape; rfl⟩

/-- two parts of a struct -/
def tPair {α β : Type} (t : TR α) (u : TR β) : TR (α × β) :=
  ⟨t.k + u.k, fun c x vs f => ∃ v1 v2 f1 f2, vs = v1 ++ v2 ∧ f = f1 ++ f2 ∧ t.p c x.1 v1 f1 ∧ u.p c x.2 v2 f2,
   fun {_ _ _ _ _} hl hk ⟨v1, v2, f1, f2, h1, h2, h3, h4⟩ => ⟨v1, v2, f1, f2, h1, h2, t.mono hl (fun b hb => hk b (by rw [h2]; simp [hb])) h3, u.mono hl (fun b hb => hk b (by rw [h2]; simp [hb])) h4⟩,
   fun ⟨v1, v2, f1, f2, h1, h2, h3, h4⟩ => by rw [h1, List.length_append, t.len h3, u.len h4],
   fun ⟨v1, v2, f1, f2, h1, h2, h3, h4⟩ v hv => by rw [h1, List.mem_append] at hv; exact hv.elim (t.one h3 v) (u.one h4 v)⟩

/-- elements that own nothing -/
def tVP {α : Type} (k : Nat) (r : α → List VP) (hk : ∀ x, (r x).length = k) (h1 : OneR r) : TR α :=
  ⟨k, fun c x vs f => VPs c (r x) vs ∧ f = [], fun {_ _ _ _ _} hl _ h => ⟨h.1.mono hl, h.2⟩, fun h => by rw [← h.1.length, hk],
   fun {c x vs f} h v hv => by
    obtain ⟨j, hj⟩ := List.mem_iff_getElem?.1 hv
    have hlt : j < (r x).length := by rw [h.1.length]; exact (List.getElem?_eq_some_iff.1 hj).1
    obtain ⟨v', h2, h3⟩ := h.1.get j _ (List.getElem?_eq_getElem hlt)
    rw [hj] at h2; cases h2
    exact h1.one c v x _ (List.getElem_mem hlt) h3⟩

/-- an element whose memory is elsewhere for the time being -/
def tHole {α : Type} (t : TR α) : TR (α ⊕ List Value) :=
  ⟨t.k, fun c x vs f => match x with
    | .inl y => t.p c y vs f
    | .inr us => vs = us ∧ f = [] ∧ us.length = t.k ∧ ∀ v ∈ us, v.oneCell' = true,
   fun {_ _ x _ _} hl hk h => by cases x with | inl y => exact t.mono hl hk h | inr us => exact h,
   fun {_ x _ _} h => by
    cases x with
    | inl y => exact t.len h
    | inr us => rw [h.1]; exact h.2.2.1,
   fun {_ x _ _} h => by
    cases x with
    | inl y => exact t.one h
    | inr us => rw [h.1]; exact h.2.2.2⟩

theorem Rows.hole {c : Ctx} {α : Type} {t : TR α} {xs : List α} {vss : List (List Value)} {fss : List (List Nat)} (h : Rows c t xs vss fss) : Rows c (tHole t) (xs.map .inl) vss fss := by
  induction h with
  | nil => exact .nil
  | cons hp _ ih => exact .cons (t := tHole t) hp ih

theorem Rows.unhole {c : Ctx} {α : Type} {t : TR α} : ∀ {xs : List α} {vss : List (List Value)} {fss : List (List Nat)}, Rows c (tHole t) (xs.map .inl) vss fss → Rows c t xs vss fss
  | [], _, _, h => by cases h; exact .nil
  | x :: xs, _, _, h => by
    cases h with
    | cons hp hr => exact .cons hp (Rows.unhole hr)

/-! ### borrowing -/
/-- assertions that do not lean on what is frozen -/
class NF (p : VP) : Prop where
  nf : ∀ F F' U U' w v, p.p ⟨F, U, w⟩ v → p.p ⟨F', U', w⟩ v
class NFs (ps : List VP) : Prop where
  nf : ∀ p ∈ ps, ∀ F F' U U' w v, p.p ⟨F, U, w⟩ v → p.p ⟨F', U', w⟩ v
class NFT {α : Type} (t : TR α) : Prop where
  nf : ∀ F F' U U' w x vs f, t.p ⟨F, U, w⟩ x vs f → t.p ⟨F', U', w⟩ x vs f
class NFH (h : HP) : Prop where
  nf : ∀ F F' U U' w f, h.p ⟨F, U, w⟩ f → h.p ⟨F', U', w⟩ f
class NFHs (S : List HP) : Prop where
  nf : ∀ h ∈ S, ∀ F F' U U' w f, h.p ⟨F, U, w⟩ f → h.p ⟨F', U', w⟩ f
instance {v : Value} : NF (vlit v) := ⟨fun _ _ _ _ _ _ h => h⟩
instance : NFs [] := ⟨fun p hp => by cases hp⟩
instance {p : VP} {ps : List VP} [hp : NF p] [hs : NFs ps] : NFs (p :: ps) := ⟨fun q hq => by
  rcases List.mem_cons.1 hq with rfl | hq
  · exact hp.nf
  · exact hs.nf q hq⟩
theorem VPs.nf {ps : List VP} [h : NFs ps] {F F' U U' : Nat → Prop} {w : World} {vs : List Value} (k : VPs ⟨F, U, w⟩ ps vs) : VPs ⟨F', U', w⟩ ps vs := by
  have h' := h.nf
  clear h
  induction k with
  | nil => exact .nil
  | cons hp _ ih => exact .cons (h' _ (by simp) _ _ _ _ _ _ hp) (ih fun p hp => h' p (by simp [hp]))
instance {ps : List VP} [NFs ps] : NF (vtup ps) := ⟨fun _ _ _ _ _ _ h => by obtain ⟨vs, h1, h2⟩ := h; exact ⟨vs, h1, h2.nf⟩⟩
instance {ps : List VP} [NFs ps] : NF (vagg ps) := ⟨fun _ _ _ _ _ _ h => by obtain ⟨vs, h1, h2⟩ := h; exact ⟨vs, h1, h2.nf⟩⟩
instance {α : Type} {r : α → Value} {h : ∀ x, (r x).oneCell' = true} : NFT (tVal r h) := ⟨fun _ _ _ _ _ _ _ _ h => h⟩
instance : NFT tInt := ⟨fun _ _ _ _ _ _ _ _ h => h⟩
instance : NFT tBool := ⟨fun _ _ _ _ _ _ _ _ h => h⟩
theorem Rows.nf {α : Type} {t : TR α} [ht : NFT t] {F F' U U' : Nat → Prop} {w : World} {xs : List α} {vss : List (List Value)} {fss : List (List Nat)} (h : Rows ⟨F, U, w⟩ t xs vss fss) : Rows ⟨F', U', w⟩ t xs vss fss := by
  induction h with
  | nil => exact .nil
  | cons hp _ ih => exact .cons (ht.nf _ _ _ _ _ _ _ _ hp) ih
theorem ownS.nf {α : Type} {t : TR α} [NFT t] {F F' U U' : Nat → Prop} {w : World} {v : Value} {xs : List α} {f : List Nat} (h : ownS t ⟨F, U, w⟩ v xs f) : ownS t ⟨F', U', w⟩ v xs f := by
  rcases h with h | ⟨b, cap, arr, tt, vss, fss, h1, h2, h3, h4, h5, h6, h7⟩
  · exact .inl h
  · exact .inr ⟨b, cap, arr, tt, vss, fss, h1, h2, h3, h4, h5.nf, h6, h7⟩
instance {α : Type} {t : TR α} [NFT t] : NFT (tS t) := ⟨fun _ _ _ _ _ _ _ _ h => by obtain ⟨v, h1, h2⟩ := h; exact ⟨v, h1, h2.nf⟩⟩
instance {α β : Type} {t : TR α} {u : TR β} [ht : NFT t] [hu : NFT u] : NFT (tPair t u) := ⟨fun _ _ _ _ _ _ _ _ h => by
  obtain ⟨v1, v2, f1, f2, h1, h2, h3, h4⟩ := h
  exact ⟨v1, v2, f1, f2, h1, h2, ht.nf _ _ _ _ _ _ _ _ h3, hu.nf _ _ _ _ _ _ _ _ h4⟩⟩
instance {α : Type} {t : TR α} {v : Value} {xs : List α} [NFT t] : NFH (hsl t v xs) := ⟨fun _ _ _ _ _ _ h => ownS.nf h⟩
instance {b k : Nat} {α : Type} {r : α → List VP} {xs : List α} {sz : Nat} [h : ∀ x, NFs (r x)] : NFH (harr b k r xs sz) := ⟨fun F F' U U' w f hh => by
  obtain ⟨h1, h2, h3⟩ := hh
  exact ⟨h1, h2, fun i x hx => ⟨(h3 i x hx).1, fun j p hp => by
    obtain ⟨v, h4, h5⟩ := (h3 i x hx).2 j p hp
    exact ⟨v, h4, (h x).nf p (List.mem_of_getElem? hp) _ _ _ _ _ _ h5⟩⟩⟩⟩
instance : NFHs [] := ⟨fun p hp => by cases hp⟩
instance {h : HP} {S : List HP} [hp : NFH h] [hs : NFHs S] : NFHs (h :: S) := ⟨fun q hq => by
  rcases List.mem_cons.1 hq with rfl | hq
  · exact hp.nf
  · exact hs.nf q hq⟩

/-- a contract over frozen arguments serves where the arguments are owned: they are lent for the call -/
theorem Spec.lendS {P : Program} {f : FuncId} {ps qs : List VP} {B S : List HP} {R : VP → List HP → Prop} (h : Spec P f qs [] R)
    (hlend : ∀ c vs fs, Args c ps vs → All c B fs → (∀ b ∈ fs.flatten, c.F b) → Args c qs vs) (hR : ∀ r H, R r H → NF r ∧ NFHs H) :
    SpecS P f ps (B ++ S) (fun r S' => ∃ H, R r H ∧ S' = H ++ (B ++ S)) := by
  refine ⟨fun c vs ha ⟨fs, hs⟩ => ?_⟩
  obtain ⟨gB, gS, rfl, hB, hS⟩ := hs.all.split
  obtain ⟨_, hnd, hown, hfro, hdis⟩ := hs
  rw [List.flatten_append] at hnd hown
  simp only [List.mem_append] at hown
  have hndB := (List.nodup_append.1 hnd)
  let c0 : Ctx := ⟨fun b => c.F b ∨ b ∈ gB.flatten, fun b => b < c.w.heap.size ∧ ¬ (c.F b ∨ b ∈ gB.flatten), c.w⟩
  have hv0 : c.leV c0 := ⟨fun _ h => .inl h, fun _ _ => rfl⟩
  have ha0 : Args c0 qs vs := hlend c0 vs gB (ha.mono hv0) (hB.keep hv0 fun _ _ => rfl) (fun b hb => .inr hb)
  have hs0 : SH c0 [] := ⟨[], .nil, by simp, by simp, fun b hb => by
    rcases hb with (hb | hb) | hb
    · exact hfro b (.inl hb)
    · exact (hown b (.inl hb)).2.2
    · exact hb.1, fun b hb hu => hu.2 hb⟩
  refine (h.run c0 vs ha0 hs0).mono fun e w' ⟨v, F', r, H, he, hl, hr, ⟨gs, hg⟩, hRr⟩ => ?_
  obtain ⟨hnr, hnH⟩ := hR r H hRr
  have hsame : ∀ b, b < c.w.heap.size → w'.heap[b]? = c.w.heap[b]? := fun b hb => by
    by_cases hF : c.F b ∨ b ∈ gB.flatten
    · exact hl.heap b (.inl hF)
    · exact hl.heap b (.inr ⟨hb, hF⟩)
  let F2 : Nat → Prop := fun b => F' b ∧ b ∉ gB.flatten
  have hl' : c.le ⟨F2, c.U, w'⟩ := ⟨fun b hb => ⟨hl.fr b (.inl hb), fun hm => (hown b (.inl hm)).1 hb⟩, rfl, fun b hb => hsame b (hfro b hb), hl.size, hl.os, hl.tape, hl.output⟩
  have hnew : ∀ b ∈ gs.flatten, c.w.heap.size ≤ b := fun b hb => by
    have := hg.own b hb
    apply Classical.byContradiction
    intro hlt
    by_cases hF : c.F b ∨ b ∈ gB.flatten
    · exact this.1 (hl.fr b hF)
    · exact this.2.1 ⟨by omega, hF⟩
  have hallH : All ⟨F2, c.U, w'⟩ H gs := by
    have := hg.all
    have hn := hnH.nf
    clear hg hnew hnH hRr
    induction this with
    | nil => exact .nil
    | cons hp _ ih => exact .cons (hn _ (by simp) _ _ _ _ _ _ hp) (ih (fun h hh => hn h (by simp [hh])))
  refine ⟨v, F2, r, H ++ (B ++ S), he, hl', ⟨hsame, hl.size⟩, hnr.nf _ _ _ _ _ _ hr, ⟨gs ++ (gB ++ gS), ?_, ?_, ?_, ?_, ?_⟩, H, hRr, rfl⟩
  · exact hallH.append ((hB.keep hl'.v fun b hb => hsame b (hown b (.inl hb)).2.2).append (hS.keep hl'.v fun b hb => hsame b (hown b (.inr hb)).2.2))
  · rw [List.flatten_append, List.flatten_append, List.nodup_append]
    refine ⟨hg.nodup, hnd, ?_⟩
    rintro x hx y hy rfl
    have := hnew x hx; have := (hown x (by simpa using hy)).2.2; omega
  · intro b hb
    rw [List.flatten_append, List.flatten_append, List.mem_append, List.mem_append] at hb
    rcases hb with hb | hb | hb
    · exact ⟨fun h => (hg.own b hb).1 h.1, fun hu => by have := hfro b (.inr hu); have := hnew b hb; omega, (hg.own b hb).2.2⟩
    · exact ⟨fun h => h.2 hb, (hown b (.inl hb)).2.1, Nat.lt_of_lt_of_le (hown b (.inl hb)).2.2 hl.size⟩
    · refine ⟨fun h => hg.dis b h.1 ⟨(hown b (.inr hb)).2.2, ?_⟩, (hown b (.inr hb)).2.1, Nat.lt_of_lt_of_le (hown b (.inr hb)).2.2 hl.size⟩
      rintro (h1 | h1)
      · exact (hown b (.inr hb)).1 h1
      · exact hndB.2.2 b h1 b hb rfl
  · rintro b (hb | hb)
    · exact hg.fro b (.inl hb.1)
    · exact Nat.lt_of_lt_of_le (hfro b (.inr hb)) hl.size
  · rintro b ⟨hb, hm⟩ hu
    by_cases hF : c.F b
    · exact hdis b hF hu
    · exact hg.dis b hb ⟨hfro b (.inr hu), fun h => h.elim hF hm⟩

theorem Spec.lend {P : Program} {f : FuncId} {ps qs : List VP} {B S : List HP} {R : VP → List HP → Prop} (h : Spec P f qs [] R)
    (hlend : ∀ c vs fs, Args c ps vs → All c B fs → (∀ b ∈ fs.flatten, c.F b) → Args c qs vs) (hR : ∀ r H, R r H → NF r ∧ NFHs H) :
    Spec P f ps (B ++ S) (fun r S' => ∃ H, R r H ∧ S' = H ++ (B ++ S)) := (h.lendS hlend hR).spec

/-- a layout and its frozen reading -/
class Frz {α : Type} (t : TR α) (r : outParam (α → List VP)) : Prop where
  frz : ∀ c x vs f, t.p c x vs f → (∀ b ∈ f, c.F b) → VPs c (r x) vs
@[reducible] def ri : Int → List VP := fun x => [vint x]
@[reducible] def rb : Bool → List VP := fun x => [vbool x]
instance : Frz tInt ri := ⟨fun c x vs f h _ => by rw [h.1]; exact .cons rfl .nil⟩
instance : Frz tBool rb := ⟨fun c x vs f h _ => by rw [h.1]; exact .cons rfl .nil⟩

theorem Rows.elems {c : Ctx} {α : Type} {t : TR α} {r : α → List VP} [hf : Frz t r] {xs : List α} {vss : List (List Value)} {fss : List (List Nat)} (h : Rows c t xs vss fss) (hF : ∀ b ∈ fss.flatten, c.F b) :
    ∀ (i : Nat) (x : α), xs[i]? = some x → (r x).length = t.k ∧ ∀ j p, (r x)[j]? = some p → ∃ v, vss.flatten[i * t.k + j]? = some v ∧ p.p c v := by
  induction h with
  | nil => intro i x hx; simp at hx
  | @cons x0 vs f xs vss fss hp hr ih =>
    intro i x hx
    have hlen := t.len hp
    cases i with
    | zero =>
      simp only [List.getElem?_cons_zero, Option.some.injEq] at hx; subst hx
      have hv := hf.frz c _ vs f hp (fun b hb => hF b (by simp [hb]))
      refine ⟨by rw [hv.length, hlen], fun j p hq => ?_⟩
      obtain ⟨v, h1, h2⟩ := hv.get j p hq
      refine ⟨v, ?_, h2⟩
      have hj := (List.getElem?_eq_some_iff.1 h1).1
      simp only [Nat.zero_mul, Nat.zero_add, List.flatten_cons]
      rw [List.getElem?_append_left hj]; exact h1
    | succ i =>
      obtain ⟨h1, h2⟩ := ih (fun b hb => hF b (by simp only [List.flatten_cons, List.mem_append]; exact .inr hb)) i x (by simpa using hx)
      refine ⟨h1, fun j p hq => ?_⟩
      obtain ⟨v, h3, h4⟩ := h2 j p hq
      refine ⟨v, ?_, h4⟩
      simp only [List.flatten_cons]
      rw [List.getElem?_append_right (by rw [hlen, Nat.succ_mul]; omega), hlen]
      have : (i + 1) * t.k + j - t.k = i * t.k + j := by rw [Nat.succ_mul]; omega
      rw [this]; exact h3

theorem ownS.frz {c : Ctx} {α : Type} {t : TR α} {r : α → List VP} [Frz t r] {v : Value} {xs : List α} {f : List Nat} (h : ownS t c v xs f) (hF : ∀ b ∈ f, c.F b) : (vsl t.k r xs).p c v := by
  rcases h with ⟨rfl, rfl, _⟩ | ⟨b, cap, arr, tt, vss, fss, rfl, h2, h3, h4, h5, h6, rfl⟩
  · exact ⟨none, 0, 0, rfl, rfl, .inl rfl⟩
  · refine ⟨_, _, cap, rfl, rfl, .inr ⟨b, 0, rfl, hF b (by simp), fun i x hx => ?_⟩⟩
    obtain ⟨h7, h8⟩ := h5.elems (r := r) (fun x hx => hF x (by simp only [List.mem_cons]; exact .inr hx)) i x hx
    refine ⟨h7, fun j p hp => ?_⟩
    obtain ⟨u, h9, h10⟩ := h8 j p hp
    refine ⟨u, ?_, h10⟩
    rw [Nat.zero_add, cell_row h2]
    have hlt := (List.getElem?_eq_some_iff.1 h9).1
    rw [← h6] at h9 hlt
    rw [List.getElem?_take] at h9
    split at h9
    · simpa using h9
    · cases h9
instance {α : Type} {t : TR α} {r : α → List VP} [Frz t r] : Frz (tS t) (fun xs => [vsl t.k r xs]) := ⟨fun c x vs f h hF => by
  obtain ⟨v, rfl, h2⟩ := h
  exact .cons (h2.frz hF) .nil⟩
theorem VPs.append {c : Ctx} {ps qs : List VP} {vs ws : List Value} (h : VPs c ps vs) (k : VPs c qs ws) : VPs c (ps ++ qs) (vs ++ ws) := by
  induction h with
  | nil => exact k
  | cons hp _ ih => exact .cons hp ih
instance {α β : Type} {t : TR α} {u : TR β} {r : α → List VP} {s : β → List VP} [ht : Frz t r] [hu : Frz u s] : Frz (tPair t u) (fun x => r x.1 ++ s x.2) := ⟨fun c x vs f h hF => by
  obtain ⟨v1, v2, f1, f2, rfl, rfl, h3, h4⟩ := h
  exact (ht.frz c _ _ _ h3 (fun b hb => hF b (by simp [hb]))).append (hu.frz c _ _ _ h4 (fun b hb => hF b (by simp [hb])))⟩
end Go.Proofs.Ytodlpdedldhebaa
