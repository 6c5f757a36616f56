/- Rules on owned slices (nil if empty, perhaps): length, elements, stores, append of an owned element, calls that borrow. Proved for every program P; conditions: indices in bounds, small sizes. -/
import Derived.Test.YtodlpdedldhebaaCoreK
namespace Go.Proofs.Ytodlpdedldhebaa
open Go
set_option linter.unusedVariables false

/-- the address of cell o of element i of a slice value -/
def eptr (v : Value) (m : Nat) : Value :=
  match v with
  | .slice (some a) _ _ => .pointer (some ⟨a.block, a.off + m, none⟩)
  | _ => .pointer none
def vep (v : Value) (k i o : Nat) : VP := vlit (eptr v (i * k + o))

/-- some chunks of S, and the rest -/
inductive Pick : List HP → List HP → List HP → Prop
  | nil {S : List HP} : Pick S [] S
  | cons {S S1 B S0 : List HP} {h : HP} : Rem S h S1 → Pick S1 B S0 → Pick S (h :: B) S0

theorem Pick.sh {S B S0 : List HP} (p : Pick S B S0) : ∀ {c : Ctx} {fs : List (List Nat)}, SHf c S fs → ∃ gs, SHf c (B ++ S0) gs ∧ ∀ b, b ∈ gs.flatten ↔ b ∈ fs.flatten := by
  induction p with
  | nil => intro c fs hs; exact ⟨fs, hs, fun _ => .rfl⟩
  | @cons S S1 B S0 h r _ ih =>
    intro c fs hs
    obtain ⟨A, C, rfl, rfl⟩ := r.split
    obtain ⟨f1, f, f2, rfl, h1, h2, h3⟩ := hs.middle
    obtain ⟨_, hnd, hown, hfro, hdis⟩ := hs
    have hs' : SHf c (h :: (A ++ C)) (f :: (f1 ++ f2)) := by
      refine ⟨.cons h2 (h1.append h3), ?_, ?_, hfro, hdis⟩
      · simp only [List.flatten_cons, List.flatten_append, List.nodup_append, List.mem_append] at hnd ⊢
        obtain ⟨hn1, ⟨hnf, hn2, hd2⟩, hd1⟩ := hnd
        refine ⟨hnf, ⟨hn1, hn2, fun x hx y hy => hd1 x hx y (.inr hy)⟩, ?_⟩
        rintro x hx y (hy | hy)
        · exact fun e => hd1 y hy x (.inl hx) e.symm
        · exact hd2 x hx y hy
      · intro b hb
        simp only [List.flatten_cons, List.flatten_append, List.mem_append] at hb hown
        refine hown b ?_
        rcases hb with h | h | h
        · exact .inr (.inl h)
        · exact .inl h
        · exact .inr (.inr h)
    obtain ⟨gs, hg, hsub⟩ := ih hs'.tail
    refine ⟨f :: gs, hs'.cons_of hg (fun b hb => (hsub b).1 hb), fun b => ?_⟩
    simp only [List.flatten_cons, List.mem_append, List.flatten_append, hsub]
    constructor
    · rintro (h | h | h)
      · exact .inr (.inl h)
      · exact .inl h
      · exact .inr (.inr h)
    · rintro (h | h | h)
      · exact .inr (.inl h)
      · exact .inl h
      · exact .inr (.inr h)

/-- v[:i], of a slice value -/
def cutV (v : Value) (i : Nat) : Value := match v with
  | .slice a _ m => .slice a i m
  | u => u
/-- how an owned argument reads while it is lent -/
inductive LV (B : List HP) : VP → VP → Prop
  | sl {α : Type} {t : TR α} {r : α → List VP} {v : Value} {xs : List α} {k : Nat} [Frz t r] : Has B (hsl t v xs) → t.k = k → LV B (vlit v) (vsl k r xs)
  | arr {b len cap k : Nat} {α : Type} {r : α → List VP} {xs : List α} {sz : Nat} : Has B (harr b k r xs sz) → len = xs.length → LV B (vsb b len cap) (vsl k r xs)
  | cut {α : Type} {t : TR α} {r : α → List VP} {v : Value} {xs : List α} {k i : Nat} [Frz t r] : Has B (hsl t v xs) → t.k = k → i ≤ xs.length → LV B (vlit (cutV v i)) (vsl k r (xs.take i))
  | refl {p : VP} : LV B p p
inductive LVs (B : List HP) : List VP → List VP → Prop
  | nil : LVs B [] []
  | cons {p q : VP} {ps qs : List VP} : LV B p q → LVs B ps qs → LVs B (p :: ps) (q :: qs)
  | agg {rs ss ps qs : List VP} : LVs B rs ss → LVs B ps qs → LVs B (vagg rs :: ps) (vagg ss :: qs)

theorem LV.p {B : List HP} {p q : VP} (h : LV B p q) {c : Ctx} {fs : List (List Nat)} (hB : All c B fs) (hF : ∀ b ∈ fs.flatten, c.F b) {v : Value} (hp : p.p c v) : q.p c v := by
  cases h with
  | @sl α t r v' xs k _ hh hk =>
    obtain ⟨f, hf, h1⟩ := hh.get hB
    cases hp; subst hk
    exact ownS.frz h1 (fun b hb => hF b (List.mem_flatten.2 ⟨f, hf, hb⟩))
  | @arr b len cap k α r xs sz hh hl =>
    obtain ⟨f, hf, rfl, _, hE⟩ := hh.get hB
    cases hp
    exact ⟨_, len, cap, rfl, hl, .inr ⟨b, 0, rfl, hF b (List.mem_flatten.2 ⟨[b], hf, by simp⟩), hE⟩⟩
  | @cut α t r v' xs k i _ hh hk hi =>
    obtain ⟨f, hf, h1⟩ := hh.get hB
    cases hp; subst hk
    obtain ⟨ao, len, cap, rfl, hl, h2⟩ := ownS.frz h1 (fun b hb => hF b (List.mem_flatten.2 ⟨f, hf, hb⟩))
    refine ⟨ao, i, cap, rfl, by simp; omega, ?_⟩
    rcases h2 with rfl | ⟨b, o, rfl, h3, h4⟩
    · exact .inl (by simp)
    · exact .inr ⟨b, o, rfl, h3, fun j x hx => h4 j x (by rw [List.getElem?_take] at hx; split at hx <;> simp_all)⟩
  | refl => exact hp

theorem LVs.vps {B : List HP} {ps qs : List VP} (h : LVs B ps qs) {c : Ctx} {fs : List (List Nat)} (hB : All c B fs) (hF : ∀ b ∈ fs.flatten, c.F b) : ∀ {vs : List Value}, VPs c ps vs → VPs c qs vs := by
  induction h with
  | nil => exact fun h => h
  | cons h _ ih => intro vs hv; cases hv with | cons hp hr => exact .cons (h.p hB hF hp) (ih hr)
  | agg _ _ ih1 ih2 =>
    intro vs hv
    cases hv with
    | cons hp hr =>
      obtain ⟨ws, h1, h2⟩ := hp
      exact .cons ⟨ws, h1, ih1 h2⟩ (ih2 hr)

theorem Args.vps {c : Ctx} {ps : List VP} {vs : List Value} : Args c ps vs ↔ VPs c ps vs := by
  constructor
  · intro h; induction h with
    | nil => exact .nil
    | cons hp _ ih => exact .cons hp ih
  · intro h; induction h with
    | nil => exact .nil
    | cons hp _ ih => exact .cons hp ih

section
variable {P : Program} {n : Nat} {ops : Array Oper} {o : Oper} {l : List Oper} {K : Slots → List HP → Prop} {φ : Slots} {S : List HP}

theorem Spec.borrowS {f : FuncId} {ps qs : List VP} {B S0 : List HP} {R : VP → List HP → Prop} (hp : Pick S B S0) (hL : LVs B ps qs) (hv : Spec P f qs [] R) (hR : ∀ r H, R r H → NF r ∧ NFHs H) :
    SpecS P f ps S (fun r S' => ∃ H, R r H ∧ S' = H ++ (B ++ S0)) :=
  ⟨fun c vs ha ⟨fs, hs⟩ => by
    obtain ⟨gs, hg, _⟩ := hp.sh hs
    exact (hv.lendS (ps := ps) (B := B) (S := S0) (fun c vs fs ha hB hF => Args.vps.2 (hL.vps hB hF (Args.vps.1 ha))) hR).run c vs ha ⟨gs, hg⟩⟩

theorem Spec.borrow {f : FuncId} {ps qs : List VP} {B S0 : List HP} {R : VP → List HP → Prop} (hp : Pick S B S0) (hL : LVs B ps qs) (hv : Spec P f qs [] R) (hR : ∀ r H, R r H → NF r ∧ NFHs H) :
    Spec P f ps S (fun r S' => ∃ H, R r H ∧ S' = H ++ (B ++ S0)) := (Spec.borrowS hp hL hv hR).spec

/-- a call that borrows -/
theorem RH.callB {d : Nat} {f : FuncId} {xs : List Operand} {ts : Array TypeId} {ps qs : List VP} {B S0 : List HP} {R : VP → List HP → Prop} (ho : o.op = .call ⟨.value (.func f), xs.toArray, ts⟩) (hd : o.dst = some d)
    (hn : Nat.blt d n = true) (he : Enters P f) (ha : Opds φ xs ps) (hp : Pick S B S0) (hL : LVs B ps qs) (hv : Spec P f qs [] R) (hR : ∀ r H, R r H → NF r ∧ NFHs H) (h : ∀ r H, R r H → RL P n ops l K ((d, r) :: φ) (H ++ (B ++ S0))) : RH P n ops o l K φ S :=
  RH.call ho hd hn he ha (Spec.borrow hp hL hv hR) (fun r S' ⟨H, hr, e⟩ => e ▸ h r H hr)

/-- a call that borrows, in a region that draws its order -/
theorem RO.callB {id : Nat} {W : Nat → Bool} {m : Nat} {listed : Array Bool} {d : Nat} {f : FuncId} {xs : List Operand} {ts : Array TypeId} {ps qs : List VP} {B S0 : List HP} {R : VP → List HP → Prop} (i : Nat) (l' : Array Bool) (hi : ops[i]? = some o) (hl : listed.setIfInBounds i true = l')
    (hw : Wants n ops φ o true) (hd : o.dst = some d) (hn : Nat.blt d n = true) (ho : o.op = .call ⟨.value (.func f), xs.toArray, ts⟩) (he : Enters P f) (ha : Opds φ xs ps) (hp : Pick S B S0) (hL : LVs B ps qs) (hv : Spec P f qs [] R) (hR : ∀ r H, R r H → NF r ∧ NFHs H)
    (h : ∀ r H, R r H → RD P n id ops W K m l' ((d, r) :: φ) (H ++ (B ++ S0))) : RO P n id ops W K m listed i φ S :=
  RO.callS i l' hi hl hw hd hn ho he ha (Spec.borrowS hp hL hv hR) (fun r S' ⟨H, hr, e⟩ => e ▸ h r H hr)

/-- a call by a contract over some owned memory, beside the rest -/
theorem Spec.some {f : FuncId} {ps : List VP} {B S0 : List HP} {R : VP → List HP → Prop} (hp : Pick S B S0) (hv : Spec P f ps B R) : Spec P f ps S (fun r S' => ∃ H, R r H ∧ S' = H ++ S0) := by
  refine ⟨fun c vs ha ⟨fs, hs⟩ => ?_⟩
  obtain ⟨gs, hg, _⟩ := hp.sh hs
  obtain ⟨gB, gS, rfl, hB, hS⟩ := hg.all.split
  obtain ⟨_, hnd, hown, hfro, hdis⟩ := hg
  rw [List.flatten_append] at hnd hown
  simp only [List.mem_append] at hown
  have hndB := (List.nodup_append.1 hnd)
  let c1 : Ctx := ⟨c.F, fun b => b < c.w.heap.size ∧ ¬ c.F b ∧ b ∉ gB.flatten, c.w⟩
  have hv1 : c.leV c1 := ⟨fun _ h => h, fun _ _ => rfl⟩
  have hs1 : SH c1 B := ⟨gB, hB.keep hv1 fun _ _ => rfl, hndB.1, fun b hb => ⟨(hown b (.inl hb)).1, fun h => h.2.2 hb, (hown b (.inl hb)).2.2⟩, fun b hb => hb.elim (fun h => hfro b (.inl h)) (fun h => h.1), fun b hb hu => hu.2.1 hb⟩
  refine (hv.run c1 vs (ha.mono hv1) hs1).mono fun e w' ⟨v, F', r, H, he, hl, hr, ⟨hs', hgH⟩, hR⟩ => ?_
  have hsame : ∀ b, b < c.w.heap.size → b ∉ gB.flatten → w'.heap[b]? = c.w.heap[b]? := fun b hb hm => by
    by_cases hF : c.F b
    · exact hl.heap b (.inl hF)
    · exact hl.heap b (.inr ⟨hb, hF, hm⟩)
  have hnB : ∀ b, c.F b ∨ c.U b → b ∉ gB.flatten := fun b hb hm => hb.elim (hown b (.inl hm)).1 (hown b (.inl hm)).2.1
  have hl' : c.le ⟨F', c.U, w'⟩ := ⟨hl.fr, rfl, fun b hb => hsame b (hfro b hb) (hnB b hb), hl.size, hl.os, hl.tape, hl.output⟩
  have hv' : (⟨F', c1.U, w'⟩ : Ctx).leV ⟨F', c.U, w'⟩ := ⟨fun _ h => h, fun _ _ => rfl⟩
  have hSkeep : ∀ b ∈ gS.flatten, w'.heap[b]? = c.w.heap[b]? := fun b hb => hsame b (hown b (.inr hb)).2.2 (fun hm => hndB.2.2 b hm b hb rfl)
  have hSF : ∀ b ∈ gS.flatten, ¬ F' b := fun b hb hF' => hgH.dis b hF' ⟨(hown b (.inr hb)).2.2, (hown b (.inr hb)).1, fun hm => hndB.2.2 b hm b hb rfl⟩
  have hHnew : ∀ b ∈ hs'.flatten, b ∈ gB.flatten ∨ c.w.heap.size ≤ b := fun b hb => by
    have := hgH.own b hb
    by_cases hm : b ∈ gB.flatten
    · exact .inl hm
    · refine .inr ?_
      apply Classical.byContradiction
      intro hlt
      by_cases hF : c.F b
      · exact this.1 (hl.fr b hF)
      · exact this.2.1 ⟨by omega, hF, hm⟩
  refine ⟨v, F', r, H ++ S0, he, hl', r.mono hv' hr, ⟨hs' ++ gS, ?_, ?_, ?_, ?_, ?_⟩, H, hR, rfl⟩
  · exact (hgH.all.keep hv' fun _ _ => rfl).append (hS.keep hl'.v hSkeep)
  · rw [List.flatten_append, List.nodup_append]
    refine ⟨hgH.nodup, hndB.2.1, ?_⟩
    rintro x hx y hy rfl
    rcases hHnew x hx with h | h
    · exact hndB.2.2 x h x hy rfl
    · have := (hown x (.inr hy)).2.2; omega
  · intro b hb
    rw [List.flatten_append, List.mem_append] at hb
    rcases hb with hb | hb
    · refine ⟨(hgH.own b hb).1, fun hu => ?_, (hgH.own b hb).2.2⟩
      rcases hHnew b hb with h | h
      · exact (hown b (.inl h)).2.1 hu
      · have := hfro b (.inr hu); omega
    · exact ⟨hSF b hb, (hown b (.inr hb)).2.1, Nat.lt_of_lt_of_le (hown b (.inr hb)).2.2 hl.size⟩
  · rintro b (hb | hb)
    · exact hgH.fro b (.inl hb)
    · exact Nat.lt_of_lt_of_le (hfro b (.inr hb)) hl.size
  · intro b hb hu
    by_cases hF : c.F b
    · exact hdis b hF hu
    · exact hgH.dis b hb ⟨hfro b (.inr hu), hF, hnB b (.inr hu)⟩

/-- a call that may write some of what is owned -/
theorem RH.callW {d : Nat} {f : FuncId} {xs : List Operand} {ts : Array TypeId} {ps : List VP} {B S0 : List HP} {R : VP → List HP → Prop} (ho : o.op = .call ⟨.value (.func f), xs.toArray, ts⟩) (hd : o.dst = some d)
    (hn : Nat.blt d n = true) (he : Enters P f) (ha : Opds φ xs ps) (hp : Pick S B S0) (hv : Spec P f ps B R) (h : ∀ r H, R r H → RL P n ops l K ((d, r) :: φ) (H ++ S0)) : RH P n ops o l K φ S :=
  RH.call ho hd hn he ha (Spec.some hp hv) (fun r S' ⟨H, hr, e⟩ => e ▸ h r H hr)
end

section
variable {P : Program} {n : Nat} {φ : Slots} {S : List HP} {d : Option Tmp} {ty : TypeId} {ps : String} {af : Array Edge} {g : Option (Nat × Bool)}

theorem VOp.lenH {t e k' : TypeId} [ht : IsSl P t e k'] {α : Type} {tr : TR α} {v : Value} {xs : List α} {x : Operand} (hx : opd φ x = some (vlit v)) (hh : Has S (hsl tr v xs)) :
    VOp P n φ S ⟨d, .call ⟨.builtin .len, #[x], #[t]⟩, ty, ps, af, g⟩ (vint (xs.length : Int)) := by
  refine ⟨fun c a hf ⟨fs, hs⟩ => ?_⟩
  have h1 : a.eval x = v := hf.opd hx
  obtain ⟨f, _, hp⟩ := hh.get hs.all
  obtain ⟨ao, cap, rfl⟩ := ownS.shape hp
  exact ⟨.int .i64 (xs.length : Int), by intro w' hw'; simp [execOp, resolve, invoke, builtin, Builtin.len_, h1, goInt, run_underlying ht.u], rfl⟩

theorem VOp.indexH {t e k : Nat} [ht : IsSl P t e k] {α : Type} {tr : TR α} {v : Value} {xs : List α} {x y : Operand} {i : Int} (hx : opd φ x = some (vlit v)) (hh : Has S (hsl tr v xs)) (hy : opd φ y = some (vint i))
    (h0 : 0 ≤ i) (hi : i.toNat < xs.length) : VOp P n φ S ⟨d, .indexAddr t x y, ty, ps, af, g⟩ (vep v k i.toNat 0) := by
  refine ⟨fun c a hf ⟨fs, hs⟩ => ?_⟩
  have h1 : a.eval x = v := hf.opd hx
  have hy' : a.eval y = .int .i64 i := hf.opd hy
  obtain ⟨f, _, hp⟩ := hh.get hs.all
  rcases hp with ⟨rfl, _, _⟩ | ⟨b, cap, arr, tt, vss, fss, rfl, _⟩
  · simp at hi
  · refine ⟨.pointer (some ⟨b, 0 + (i.toNat * k + 0), none⟩), ?_, rfl⟩
    have hlt : i < (xs.length : Int) := by omega
    intro w' hw'
    simp [execOp, h1, hy', Instr.indexAt, asIntOf, run_underlying ht.u, h0, hlt, ht.s, add_zero_addr]

theorem VOp.indexHN {t e k : Nat} [ht : IsSl P t e k] {α : Type} {tr : TR α} {v : Value} {xs : List α} {x y : Operand} {i : Nat} (hx : opd φ x = some (vlit v)) (hh : Has S (hsl tr v xs)) (hy : opd φ y = some (vint (i : Int)))
    (hi : i < xs.length) : VOp P n φ S ⟨d, .indexAddr t x y, ty, ps, af, g⟩ (vep v k i 0) := by
  have := VOp.indexH (P := P) (n := n) (φ := φ) (S := S) (d := d) (ty := ty) (ps := ps) (af := af) (g := g) (t := t) (e := e) (k := k) hx hh hy (by omega) (by simpa using hi)
  simpa using this

/-- an element of one known value -/
theorem VOp.loadH {t : Nat} {x : Operand} {α : Type} {rv : α → Value} {h1 : ∀ x, (rv x).oneCell' = true} {v : Value} {xs : List α} {i : Nat} {k' : Nat} [ht : IsVar P t false k'] (hx : opd φ x = some (vep v 1 i 0)) (hh : Has S (hsl (tVal rv h1) v xs))
    (hi : i < xs.length) : VOp P n φ S ⟨d, .load t x, ty, ps, af, g⟩ (vlit (rv (xs[i]'hi))) := by
  refine ⟨fun c a hf ⟨fs, hs⟩ => ?_⟩
  obtain ⟨f, _, hp⟩ := hh.get hs.all
  rcases hp with ⟨rfl, _, _⟩ | ⟨b, cap, arr, tt, vss, fss, rfl, hb, hsz, hcap, hr, htk, _⟩
  · simp at hi
  · have hx' : a.eval x = .pointer (some ⟨b, 0 + (i * 1 + 0), none⟩) := hf.opd hx
    rw [Nat.zero_add, Nat.mul_one, Nat.add_zero] at hx'
    obtain ⟨v1, vs, v2, f1, f, f2, rfl, rfl, h3, h4, h5, _⟩ := hr.at i _ (List.getElem?_eq_getElem hi)
    have hvs : vs = [rv xs[i]] := h5.1
    have hcell : c.w.cell? ⟨b, i, none⟩ = some (rv xs[i]) := by
      have hk : (tVal rv h1).k = 1 := rfl
      rw [hk, Nat.mul_one] at h4 htk
      have : (arr.toList.take xs.length)[i]? = some (rv xs[i]) := by
        rw [htk, List.flatten_append, List.getElem?_append_right (by omega), h4, List.flatten_cons, hvs]; simp
      rw [List.getElem?_take, if_pos hi] at this
      rw [cell_row hb]; simpa using this
    exact ⟨_, by intro w' hw'; have h4 := hw'.cell hcell; simp [execOp, hx', Instr.loadAt, Instr.sureAddr, loadVar, ht.g, h4], rfl⟩

theorem rows_put {α : Type} {t : TR α} {arr : Array Value} {xs : List α} {v1 v2 : List (List Value)} {us ws : List Value} {i : Nat} (hfit : xs.length * t.k ≤ arr.size) (htk : arr.toList.take (xs.length * t.k) = (v1 ++ us :: v2).flatten) (h4 : v1.flatten.length = i * t.k)
    (hu : us.length = t.k) (hw : ws.length = t.k) : ((arr.toList.take (i * t.k) ++ ws ++ arr.toList.drop (i * t.k + ws.length)).toArray).toList.take (xs.length * t.k) = (v1 ++ ws :: v2).flatten := by
  have hlen := congrArg List.length htk
  simp only [List.flatten_append, List.flatten_cons, List.length_append, List.length_take, Array.length_toList, h4, hu] at hlen
  have e1 : min (xs.length * t.k) arr.size = xs.length * t.k := by omega
  rw [e1] at hlen
  apply List.ext_getElem?
  intro j
  have hj : ∀ j, j < xs.length * t.k → arr.toList[j]? = ((v1 ++ us :: v2).flatten)[j]? := fun j hj => by rw [← htk, List.getElem?_take, if_pos hj]
  rw [List.getElem?_take]
  by_cases hjl : j < xs.length * t.k
  · rw [if_pos hjl]
    have := put_get (arr := arr) (vs := ws) (o := i * t.k) (j := j) (by omega)
    simp only [List.getElem?_toArray] at this
    rw [this]
    simp only [List.flatten_append, List.flatten_cons]
    by_cases h1 : j < i * t.k
    · rw [if_pos h1, List.getElem?_append_left (by omega)]
      have := hj j hjl
      simp only [List.flatten_append, List.flatten_cons] at this
      rw [List.getElem?_append_left (by omega)] at this
      simpa using this
    · rw [if_neg h1, List.getElem?_append_right (by omega), h4]
      by_cases h2 : j < i * t.k + ws.length
      · rw [if_pos h2, List.getElem?_append_left (by omega)]
      · rw [if_neg h2, List.getElem?_append_right (by omega)]
        have := hj j hjl
        simp only [List.flatten_append, List.flatten_cons] at this
        rw [List.getElem?_append_right (by omega), List.getElem?_append_right (by omega), h4, hu] at this
        rw [hw]; simpa using this
  · rw [if_neg hjl, List.getElem?_eq_none (by simp only [List.flatten_append, List.flatten_cons, List.length_append, h4, hw]; omega)]

/-- a[i] = v, elements of one known value -/
theorem UOp.storeH {t : TypeId} {x y : Operand} {gg : Bool} {α : Type} {rv : α → Value} {ho : ∀ x, (rv x).oneCell' = true} {v : Value} {xs : List α} {i : Nat} {z : α} {C : HP → List HP} [ht : IsVar P t gg 1]
    (hx : opd φ x = some (vep v 1 i 0)) (hy : opd φ y = some (vlit (rv z))) (u' : Plc S (hsl (tVal rv ho) v xs) C) (hi : i < xs.length) : UOp P n φ S ⟨d, .store t x y, ty, ps, af, g⟩ (fun S'' => S'' = C (hsl (tVal rv ho) v (xs.set i z))) := by
  refine ⟨fun c a hf hs => ?_⟩
  have u := u'.upd (hsl (tVal rv ho) v (xs.set i z))
  have hy' : a.eval y = rv z := hf.opd hy
  obtain ⟨fs, hsf⟩ := hs
  obtain ⟨A, B, hS, hS'⟩ := u.split
  subst hS
  rw [hS']
  obtain ⟨f1, f, f2, rfl, hA, hp, hB⟩ := hsf.middle
  rcases hp with ⟨rfl, _, _⟩ | ⟨b, cap, arr, tt, vss, fss, rfl, hb, hsz, hcap, hr, htk, rfl⟩
  · simp at hi
  · have hx' : a.eval x = .pointer (some ⟨b, 0 + (i * 1 + 0), none⟩) := hf.opd hx
    rw [Nat.zero_add, Nat.mul_one, Nat.add_zero] at hx'
    obtain ⟨v1, us, v2, g1, gg', g2, rfl, rfl, h3, h4, h5, h6⟩ := hr.at i _ (List.getElem?_eq_getElem hi)
    have hk : (tVal rv ho).k = 1 := rfl
    have hus : us = [rv xs[i]] := h5.1
    have hg' : gg' = [] := h5.2
    subst hg'
    have hfitL : xs.length * (tVal rv ho).k ≤ arr.size := by rw [hsz]; exact Nat.mul_le_mul_right _ hcap
    have hfit : i + [rv z].length ≤ arr.size := by rw [hk, Nat.mul_one] at hfitL; simp; omega
    have hrun := run_put (P := P) (vs := [rv z]) hb hfit (by simpa using ho z)
    have hlt : b < c.w.heap.size := (Array.getElem?_eq_some_iff.1 hb).1
    have hbo := hsf.own b (by simp)
    let arr' := (arr.toList.take i ++ [rv z] ++ arr.toList.drop (i + [rv z].length)).toArray
    have hl : c.le ⟨c.F, c.U, setW c.w b arr' tt⟩ := ⟨fun _ h => h, rfl, fun k hk => setW_other (fun e => hk.elim (fun h => hbo.1 (e ▸ h)) (fun h => hbo.2.1 (e ▸ h))), by simp [setW_size], rfl, rfl, rfl⟩
    have hnd : (b :: (g1 ++ [] :: g2).flatten).Nodup := by
      have := hsf.nodup
      simp only [List.flatten_append, List.flatten_cons, List.nodup_append] at this
      simpa using this.2.1.1
    have hs' := hsf.replace (h' := hsl (tVal rv ho) (.slice (some ⟨b, 0, none⟩) xs.length cap) (xs.set i z)) (f' := b :: (g1 ++ [] :: g2).flatten) hl hA hB (fun _ => .rfl) (fun k _ hk => setW_other (fun e => by subst e; simp at hk)) (by
        intro k hk
        refine ⟨.inl hk, ?_⟩
        have := (hsf.own k (by rw [List.flatten_append, List.flatten_cons, List.mem_append, List.mem_append]; exact .inr (.inl hk))).2.2
        simpa [setW_size] using this) hnd (by
      have hnew := setW_at (w := c.w) (arr := arr') (t := tt) hlt
      refine .inr ⟨b, cap, arr', tt, v1 ++ [rv z] :: v2, g1 ++ [] :: g2, by simp, hnew, by rw [← hsz]; exact put_size hfit, by simpa using hcap, ?_, ?_, rfl⟩
      · refine h6 z [rv z] [] _ ⟨rfl, rfl⟩ hl.v (fun k hk => setW_other (fun e => ?_)) (fun k hk => setW_other (fun e => ?_))
        · subst e; simp only [List.nodup_cons, List.flatten_append, List.mem_append] at hnd; exact hnd.1 (.inl hk)
        · subst e; simp only [List.nodup_cons, List.flatten_append, List.mem_append, List.flatten_cons] at hnd; exact hnd.1 (.inr (.inr hk))
      · have := rows_put (t := tVal rv ho) (ws := [rv z]) hfitL htk h4 (by rw [hus]; rfl) rfl
        rw [hk, Nat.mul_one] at this
        simpa [hk, arr'] using this)
    refine ⟨_, c.F, _, ?_, hl, ⟨_, hs'⟩, rfl⟩
    have hc1 : (rv z).cells = #[rv z] := by
      have := ho z
      cases h : rv z <;> rw [h] at this <;> first | rfl | simp [Value.oneCell'] at this
    simp [execOp, hx', hy', Instr.storeAt, Instr.sureAddr, storeVar, hc1, ht.s, hrun, arr']
end
end Go.Proofs.Ytodlpdedldhebaa
