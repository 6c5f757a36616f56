/- Lists of sets of the call's own (rules for every program), and relations that are defined by atoms, in plain terms: which definitions are allowed, the list of what fits, the same list without repetition. Conditions: lengths below 2^47. -/
import Derived.Test.YtiifdhdhjioefaaRlsP
import Derived.Test.YtiifdhdhjioefaaRelB
namespace Go.Proofs.Ytiifdhdhjioefaa
open Go Go.Proofs
set_option linter.unusedVariables false
/-- an element that is a set of the call's own -/
def tSet : TR (List ByteArray) :=
  ⟨1, fun c ks vs f => ∃ b : Nat, vs = [.map (Option.some b)] ∧ (hset b ks).p c f, fun {_ _ _ _ _} hl hk ⟨b, h1, h2⟩ => ⟨b, h1, (hset b _).mono hl hk h2⟩, fun ⟨b, h, _⟩ => by rw [h]; rfl,
   fun ⟨b, h, _⟩ u hu => by rw [h, List.mem_singleton] at hu; rw [hu]; rfl⟩
theorem SEnt.elSet {b : Nat} {ks : List ByteArray} {S : List HP} : SEnt (hset b ks :: S) (hel tSet ks [.map (Option.some b)] :: S) := fun c fs hs => by
  obtain ⟨f, gs, rfl, h1⟩ := hs.head
  exact ⟨_, hs.turn ⟨b, rfl, h1⟩⟩
theorem Run.focusSet {P : Program} {n : Nat} {x : Code} {Q : Post} {φ : Slots} {S S1 : List HP} {v : Value} {xs : List (List ByteArray)} (i : Nat) (hr : Rem S (hsl tSet v xs) S1) (hi : i < xs.length)
    (h : ∀ b : Nat, Run P n x Q φ (hset b (xs[i]'hi) :: hsl (tHole tSet) v ((xs.map .inl).set i (.inr [.map (Option.some b)])) :: S1)) : Run P n x Q φ S :=
  ⟨fun c a hf hs => by
    obtain ⟨fs, f, hs⟩ := hs.rem hr
    obtain ⟨us, gs, _, h2⟩ := focusS hi hs
    obtain ⟨f2, gs2, rfl, b, rfl, h3⟩ := h2.head
    exact (h b).run c a hf ⟨_, h2.turn h3⟩⟩
theorem SEnt.unfocusSet {v : Value} {b : Nat} {xs : List (List ByteArray)} {y : List ByteArray} {S1 : List HP} {i : Nat} (hi : i < xs.length) :
    SEnt (hset b y :: hsl (tHole tSet) v ((xs.map .inl).set i (.inr [.map (Option.some b)])) :: S1) (hsl tSet v (xs.set i y) :: S1) := SEnt.elSet.trans (SEnt.unfocus hi)
section
variable {P : Program} {n : Nat} {φ : Slots} {S : List HP} {d : Option Tmp} {ty : TypeId} {ps : String} {af : Array Edge} {g : Option (Nat × Bool)}
/-- append of one set, which a literal of one element holds -/
theorem EOp.appSet {t t2 e e2 k2 by' : Nat} {z : Value} [ht : IsSlM P t e 1 by' z] [h2 : IsSl P t2 e2 k2] {x y : Operand} {v : Value} {xs : List (List ByteArray)} {el : List ByteArray} {b b2 m2 sz2 : Nat} {S1 : List HP}
    (hx : opd φ x = some (vlit v)) (hy : opd φ y = some (vsb b2 1 m2)) (hp : Pick S [harr b2 1 (List.map vlit) [[.map (Option.some b)]] sz2, hset b el, hsl tSet v xs] S1)
    (hbound : (xs.length + 1) * by' ≤ 140737488355328) (h63 : xs.length + 1 ≤ 140737488355328) :
    EOp P n φ S ⟨d, .call ⟨.builtin .append, #[x, y], #[t, t2]⟩, ty, ps, af, g⟩ (fun q S' => ∃ s : Sv, q = vlit (vsv s) ∧ S' = hsl tSet (vsv s) (xs ++ [el]) :: S1) := by
  refine ⟨fun c a hf ⟨fs0, hs0⟩ => ?_⟩
  obtain ⟨fs, hs, _⟩ := hp.sh hs0
  have hE : SEnt (harr b2 1 (List.map vlit) [[.map (Option.some b)]] sz2 :: hset b el :: hsl tSet v xs :: S1) (hel tSet el [.map (Option.some b)] :: hsl tSet v xs :: harr b2 1 (List.map vlit) [[.map (Option.some b)]] sz2 :: S1) :=
    (SEnt.pick (B := [hset b el]) (.cons (.tail .head) .nil)).trans (SEnt.elSet.trans (SEnt.pick (B := [hel tSet el [.map (Option.some b)], hsl tSet v xs]) (.cons .head (.cons (.tail .head) .nil))))
  obtain ⟨gs, hg⟩ := hE c fs hs
  have h1 : EOp P n φ (hel tSet el [.map (Option.some b)] :: hsl tSet v xs :: harr b2 1 (List.map vlit) [[.map (Option.some b)]] sz2 :: S1) ⟨d, .call ⟨.builtin .append, #[x, y], #[t, t2]⟩, ty, ps, af, g⟩ _ :=
    EOp.appH (tr := tSet) hx hy (.tail (.tail .head)) (.cons .head (.cons .head .nil)) rfl hbound h63
  obtain ⟨u, w', F', r, S', he, hle, hr, ⟨fs', hs'⟩, v', rfl, rfl⟩ := h1.run c a hf ⟨gs, hg⟩
  obtain ⟨f, gs', rfl, hh⟩ := hs'.head
  obtain ⟨ao, cap, rfl⟩ := ownS.shape hh
  have hS : SEnt (hsl tSet (.slice ao (xs ++ [el]).length cap) (xs ++ [el]) :: harr b2 1 (List.map vlit) [[.map (Option.some b)]] sz2 :: S1) (hsl tSet (.slice ao (xs ++ [el]).length cap) (xs ++ [el]) :: S1) :=
    (SEnt.pick (B := [harr b2 1 (List.map vlit) [[.map (Option.some b)]] sz2]) (.cons (.tail .head) .nil)).trans SEnt.drop
  obtain ⟨gs2, hg2⟩ := hS _ _ hs'
  exact ⟨u, w', F', _, _, he, hle, hr, ⟨gs2, hg2⟩, (ao, (xs ++ [el]).length, cap), rfl, rfl⟩
theorem RH.appSet {ops : Array Oper} {ll : List Oper} {K : Slots → List HP → Prop} {t t2 e e2 k2 by' : Nat} {z : Value} [ht : IsSlM P t e 1 by' z] [h2 : IsSl P t2 e2 k2] {x y : Operand} {v : Value} {xs : List (List ByteArray)} {el : List ByteArray} {b b2 m2 sz2 : Nat} {S1 : List HP} {dd : Nat} (hn : Nat.blt dd n = true)
    (hx : opd φ x = some (vlit v)) (hy : opd φ y = some (vsb b2 1 m2)) (hp : Pick S [harr b2 1 (List.map vlit) [[.map (Option.some b)]] sz2, hset b el, hsl tSet v xs] S1)
    (hbound : (xs.length + 1) * by' ≤ 140737488355328) (h63 : xs.length + 1 ≤ 140737488355328) (hK : ∀ rr SS, (fun q S' => ∃ s : Sv, q = vlit (vsv s) ∧ S' = hsl tSet (vsv s) (xs ++ [el]) :: S1) rr SS → RL P n ops ll K ((dd, rr) :: φ) SS) :
    RH P n ops ⟨some dd, .call ⟨.builtin .append, #[x, y], #[t, t2]⟩, ty, ps, af, g⟩ ll K φ S := RH.eff rfl hn (EOp.appSet hx hy hp hbound h63) hK
end

/-! ### definitions -/
/-- the arity that an atom's list must have -/
def arOf (rs : List (Int × List (List Int))) (x : Int) : Int := if 0 ≤ x then (rs.getD x.toNat (0, [])).1 else 2
theorem arOf_at {rs : List (Int × List (List Int))} {x : Int} (h : 0 ≤ x) (h2 : x.toNat < rs.length) : arOf rs x = (rs[x.toNat]).1 := by
  rw [arOf, if_pos h, List.getD_eq_getElem?_getD, List.getElem?_eq_getElem h2]; rfl
theorem arOf_neg {rs : List (Int × List (List Int))} {x : Int} (h : x < 0) : arOf rs x = 2 := by rw [arOf, if_neg (by omega)]
def atomB (v : Int) (rs : List (Int × List (List Int))) (a : Int × List Int) : Bool := decide (-1 ≤ a.1 ∧ a.1 < (rs.length : Int)) && (decide ((a.2.length : Int) = arOf rs a.1) && elB v a.2)
def dszB (n v : Int) (rs : List (Int × List (List Int))) (ats : List (Int × List Int)) : Bool := decide ((1 ≤ n ∧ n ≤ 8) ∧ rs.length ≤ 10 ∧ (1 ≤ v ∧ v ≤ 5) ∧ pw n v.toNat ≤ 5000 ∧ ats.length ≤ 10)
def defB (n : Int) (rs : List (Int × List (List Int))) (v : Int) (ats : List (Int × List Int)) (fr : List Int) : Bool :=
  dszB n v rs ats && (rs.all (fun y => relB n y.1 y.2) && (ats.all (atomB v rs) && (decide (1 ≤ fr.length ∧ fr.length ≤ 3) && elB v fr)))
theorem defB_sz {n v : Int} {rs : List (Int × List (List Int))} {ats : List (Int × List Int)} {fr : List Int} (h : dszB n v rs ats = false) : defB n rs v ats fr = false := by rw [defB, h]; rfl
theorem defB_rel {n v : Int} {rs : List (Int × List (List Int))} {ats : List (Int × List Int)} {fr : List Int} (h : rs.all (fun y => relB n y.1 y.2) = false) : defB n rs v ats fr = false := by rw [defB, h, Bool.false_and, Bool.and_false]
theorem defB_atom {n v : Int} {rs : List (Int × List (List Int))} {ats : List (Int × List Int)} {fr : List Int} (h : ats.all (atomB v rs) = false) : defB n rs v ats fr = false := by rw [defB, h, Bool.false_and, Bool.and_false, Bool.and_false]
theorem defB_end {n v : Int} {rs : List (Int × List (List Int))} {ats : List (Int × List Int)} {fr : List Int} (h0 : dszB n v rs ats = true) (h1 : rs.all (fun y => relB n y.1 y.2) = true) (h2 : ats.all (atomB v rs) = true) : defB n rs v ats fr = (decide (1 ≤ fr.length ∧ fr.length ≤ 3) && elB v fr) := by
  rw [defB, h0, h1, h2]; rfl
theorem dszB_no {n v : Int} {rs : List (Int × List (List Int))} {ats : List (Int × List Int)} (h : ¬ ((1 ≤ n ∧ n ≤ 8) ∧ rs.length ≤ 10 ∧ (1 ≤ v ∧ v ≤ 5) ∧ pw n v.toNat ≤ 5000 ∧ ats.length ≤ 10)) : dszB n v rs ats = false := decide_eq_false h
theorem dszB_at {n v : Int} {rs : List (Int × List (List Int))} {ats : List (Int × List Int)} (h : dszB n v rs ats = true) : (1 ≤ n ∧ n ≤ 8) ∧ rs.length ≤ 10 ∧ (1 ≤ v ∧ v ≤ 5) ∧ pw n v.toNat ≤ 5000 ∧ ats.length ≤ 10 := of_decide_eq_true h
theorem defB_at {n v : Int} {rs : List (Int × List (List Int))} {ats : List (Int × List Int)} {fr : List Int} (h : defB n rs v ats fr = true) : dszB n v rs ats = true ∧ (∀ y ∈ rs, relB n y.1 y.2 = true) ∧ (∀ a ∈ ats, atomB v rs a = true) ∧ (1 ≤ fr.length ∧ fr.length ≤ 3) ∧ elB v fr = true := by
  simp only [defB, Bool.and_eq_true, List.all_eq_true, decide_eq_true_eq] at h
  exact ⟨h.1, h.2.1, h.2.2.1, h.2.2.2.1, h.2.2.2.2⟩
theorem atomB_at {v : Int} {rs : List (Int × List (List Int))} {a : Int × List Int} (h : atomB v rs a = true) : (-1 ≤ a.1 ∧ a.1 < (rs.length : Int)) ∧ (a.2.length : Int) = arOf rs a.1 ∧ elB v a.2 = true := by
  simp only [atomB, Bool.and_eq_true, decide_eq_true_eq] at h
  exact ⟨h.1, h.2.1, h.2.2⟩

/-- whether values fit to an atom -/
def fitB (rs : List (Int × List (List Int))) (vals : List Int) (a : Int × List Int) : Bool :=
  if a.1 < 0 then decide ((comp a.2 vals).getD 0 0 = (comp a.2 vals).getD 1 0) else decide (comp a.2 vals ∈ (rs.getD a.1.toNat (0, [])).2)
def fitsB (rs : List (Int × List (List Int))) (ats : List (Int × List Int)) (vals : List Int) : Bool := ats.all (fitB rs vals)
theorem fitB_neg {rs : List (Int × List (List Int))} {vals : List Int} {a : Int × List Int} (h : a.1 < 0) (h0 : 0 < (comp a.2 vals).length) (h1 : 1 < (comp a.2 vals).length) : fitB rs vals a = decide ((comp a.2 vals)[0] = (comp a.2 vals)[1]) := by
  rw [fitB, if_pos h, List.getD_eq_getElem?_getD, List.getD_eq_getElem?_getD, List.getElem?_eq_getElem h0, List.getElem?_eq_getElem h1]; rfl
theorem fitB_pos {rs : List (Int × List (List Int))} {vals : List Int} {a : Int × List Int} (h : ¬ a.1 < 0) (h0 : a.1.toNat < rs.length) : fitB rs vals a = decide (comp a.2 vals ∈ (rs[a.1.toNat]).2) := by
  rw [fitB, if_neg h, List.getD_eq_getElem?_getD, List.getElem?_eq_getElem h0]; rfl
/-- the tuples, one for each assignment that fits -/
def defL (n : Int) (k : Nat) (rs : List (Int × List (List Int))) (ats : List (Int × List Int)) (fr : List Int) (i : Nat) : List (List Int) :=
  ((List.range i).filter fun j : Nat => fitsB rs ats (lowd (j : Int) n k)).map fun j : Nat => comp fr (lowd (j : Int) n k)
theorem defL_yes {n : Int} {k : Nat} {rs : List (Int × List (List Int))} {ats : List (Int × List Int)} {fr : List Int} {i : Nat} (h : fitsB rs ats (lowd (i : Int) n k) = true) : defL n k rs ats fr (i + 1) = defL n k rs ats fr i ++ [comp fr (lowd (i : Int) n k)] := by
  rw [defL, List.range_succ, List.filter_append, List.map_append, List.filter_cons_of_pos (by simpa using h)]; rfl
theorem defL_no {n : Int} {k : Nat} {rs : List (Int × List (List Int))} {ats : List (Int × List Int)} {fr : List Int} {i : Nat} (h : fitsB rs ats (lowd (i : Int) n k) = false) : defL n k rs ats fr (i + 1) = defL n k rs ats fr i := by
  rw [defL, List.range_succ, List.filter_append, List.map_append, List.filter_cons_of_neg (by simp [h])]
  simp [defL]
theorem defL_le (n : Int) (k : Nat) (rs : List (Int × List (List Int))) (ats : List (Int × List Int)) (fr : List Int) (i : Nat) : (defL n k rs ats fr i).length ≤ i := by
  rw [defL, List.length_map]; exact Nat.le_trans (List.length_filter_le _ _) (by simp)
theorem defL_len (n : Int) (k : Nat) (rs : List (Int × List (List Int))) (ats : List (Int × List Int)) (fr : List Int) (i : Nat) : ∀ t ∈ defL n k rs ats fr i, t.length = fr.length := fun t ht => by
  simp only [defL, List.mem_map] at ht
  obtain ⟨j, _, rfl⟩ := ht
  exact comp_len _ _
theorem putF_app (L : List (List Int)) (x : List Int) : putF (L ++ [x]) = putL (putF L) x := by rw [putF, putF, List.foldl_append]; rfl
/-- a list without repetition -/
def ddI (T : List (List Int)) (x : List Int) : List (List Int) := if x ∈ T then T else T ++ [x]
def ddL (L : List (List Int)) : List (List Int) := L.foldl ddI []
theorem ddL_app (L : List (List Int)) (x : List Int) : ddL (L ++ [x]) = ddI (ddL L) x := by rw [ddL, ddL, List.foldl_append]; rfl
theorem mem_ddI {T : List (List Int)} {x t : List Int} : t ∈ ddI T x ↔ t ∈ T ∨ t = x := by
  rw [ddI]
  by_cases h : x ∈ T
  · rw [if_pos h]
    exact ⟨.inl, fun h2 => h2.elim id (fun e => e ▸ h)⟩
  · rw [if_neg h, List.mem_append, List.mem_singleton]
theorem mem_ddF {t : List Int} : ∀ (L T : List (List Int)), t ∈ L.foldl ddI T ↔ t ∈ T ∨ t ∈ L
  | [], T => by simp
  | x :: L, T => by rw [List.foldl_cons, mem_ddF L, mem_ddI, List.mem_cons, or_assoc]
theorem mem_ddL {t : List Int} {L : List (List Int)} : t ∈ ddL L ↔ t ∈ L := by rw [ddL, mem_ddF]; simp
theorem ddI_le (T : List (List Int)) (x : List Int) : (ddI T x).length ≤ T.length + 1 := by
  rw [ddI]; split <;> simp
theorem ddF_le : ∀ (L T : List (List Int)), (L.foldl ddI T).length ≤ T.length + L.length
  | [], T => by simp
  | x :: L, T => by
    have h1 := ddF_le L (ddI T x)
    have h2 := ddI_le T x
    rw [List.foldl_cons, List.length_cons]; omega
theorem ddL_le (L : List (List Int)) : (ddL L).length ≤ L.length := by have := ddF_le L []; simpa [ddL] using this
theorem putF_dd {k : Nat} {L : List (List Int)} (h : ∀ t ∈ L, t.length = k) : putF (ddL L) = putF L := by
  have h1 : ∀ t ∈ ddL L, t.length = k := fun t ht => h t (mem_ddL.1 ht)
  exact str_ext (putF_str h1).1 (putF_str h).1 fun t => ((putF_str h1).2 t).trans (mem_ddL.trans ((putF_str h).2 t).symm)
theorem lowd_el {n : Int} (hn : 1 ≤ n) {i : Int} : ∀ m, ∀ x ∈ lowd i n m, 0 ≤ x ∧ x < n
  | 0, x, h => by simp [lowd] at h
  | m + 1, x, h => by
    rw [lowd, List.mem_cons] at h
    rcases h with rfl | h
    · exact ⟨Int.emod_nonneg _ (by omega), Int.emod_lt_of_pos _ (by omega)⟩
    · exact lowd_el hn m x h
theorem comp_el {n : Int} {f vals : List Int} (h : ∀ x ∈ vals, 0 ≤ x ∧ x < n) (hv : ∀ v ∈ f, 0 ≤ v ∧ v < vals.length) : ∀ x ∈ comp f vals, 0 ≤ x ∧ x < n := fun x hx => by
  simp only [comp, List.mem_map] at hx
  obtain ⟨v, hv2, rfl⟩ := hx
  have h1 := hv v hv2
  have h2 : v.toNat < vals.length := by omega
  rw [List.getD_eq_getElem?_getD, List.getElem?_eq_getElem h2]
  exact h _ (List.getElem_mem h2)
end Go.Proofs.Ytiifdhdhjioefaa
