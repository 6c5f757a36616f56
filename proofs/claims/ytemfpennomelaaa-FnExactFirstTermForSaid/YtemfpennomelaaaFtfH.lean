/- Lists of rows of one's own, told by slice values, nil where there is no row: reading and appending; impl.compareTerms. Proved for this program; conditions: lists that fit memory. -/
import Derived.Test.YtemfpennomelaaaHrow
import Derived.Test.YtemfpennomelaaaFtfG
import Derived.Test.YtemfpennomelaaaClsR
namespace Go.Proofs.Ytemfpennomelaaa
open Go Go.Proofs
set_option linter.unusedVariables false
/-- slice values that stand for rows: nil for the empty row, else one of the rows kept -/
structure Asc (V : List Sv) (ps : PS) (B : List (List Int)) : Prop where
  len : V.length = B.length
  no : ∀ i (h : i < V.length), B.getD i [] = [] → V[i] = (none, 0, 0)
  yes : ∀ i (h : i < V.length), B.getD i [] ≠ [] → (V[i], B.getD i []) ∈ ps ∧ (V[i]).1 ≠ none ∧ (V[i]).2.1 = (B.getD i []).length
theorem Asc.nil (m : Nat) : Asc (List.replicate m (none, 0, 0)) [] (List.replicate m []) :=
  ⟨by simp, fun i h _ => by simp, fun i h hne => absurd (by rw [List.getD_eq_getElem?_getD, List.getElem?_replicate]; split <;> rfl) hne⟩
theorem Asc.more {V : List Sv} {ps qs : PS} {B : List (List Int)} (h : Asc V ps B) (hs : ∀ p ∈ ps, p ∈ qs) : Asc V qs B :=
  ⟨h.len, h.no, fun i hi hne => by obtain ⟨h1, h2⟩ := h.yes i hi hne; exact ⟨hs _ h1, h2⟩⟩
theorem Asc.set {V : List Sv} {ps : PS} {B : List (List Int)} (h : Asc V ps B) {p : Nat} {w : Sv} {t : List Int} (hp : p < B.length) (hm : (w, t) ∈ ps) (h1 : w.1 ≠ none) (h2 : w.2.1 = t.length) (ht : t ≠ []) : Asc (V.set p w) ps (B.set p t) := by
  have hpv : p < V.length := by rw [h.len]; exact hp
  refine ⟨by simpa using h.len, fun i hi hne => ?_, fun i hi hne => ?_⟩
  · by_cases e : i = p
    · subst e
      rw [getD_set_eq hp] at hne
      exact absurd hne ht
    · rw [getD_set_ne e] at hne
      rw [List.getElem_set_ne (Ne.symm e)]
      exact h.no i (by simpa using hi) hne
  · by_cases e : i = p
    · subst e
      rw [getD_set_eq hp, List.getElem_set_self]
      exact ⟨hm, h1, h2⟩
    · rw [getD_set_ne e] at hne ⊢
      rw [List.getElem_set_ne (Ne.symm e)]
      exact h.yes i (by simpa using hi) hne
theorem Asc.len0 {V : List Sv} {ps : PS} {B : List (List Int)} (h : Asc V ps B) {i : Nat} (hi : i < V.length) : (V[i]).2.1 = (B.getD i []).length := by
  by_cases e : B.getD i [] = []
  · rw [h.no i hi e, e]; rfl
  · exact (h.yes i hi e).2.2
theorem Asc.isNone {V : List Sv} {ps : PS} {B : List (List Int)} (h : Asc V ps B) {i : Nat} (hi : i < V.length) : (V[i]).1.isNone = decide (B.getD i [] = []) := by
  by_cases e : B.getD i [] = []
  · rw [h.no i hi e, e]; rfl
  · have h1 := (h.yes i hi e).2.1
    rw [decide_eq_false e]
    cases h2 : (V[i]).1 with
    | none => exact absurd h2 h1
    | some a => rfl
theorem rows_mem {c : Ctx} : ∀ {ps : PS} {fss : List (List Nat)}, Rows c (tS tInt) (ps.map Prod.snd) (ps.map fun p => [vsv p.1]) fss → ∀ p ∈ ps, ∃ f, ownS tInt c (vsv p.1) p.2 f
  | [], _, _, p, hp => by cases hp
  | q :: ps, _, h, p, hp => by
    cases h with
    | cons h1 h2 =>
      rcases List.mem_cons.1 hp with rfl | hp
      · obtain ⟨v, e, h3⟩ := h1
        injection e with e
        exact ⟨_, by rw [e]; exact h3⟩
      · exact rows_mem h2 p hp
/-- a list of one's own is one of the rows then -/
theorem SEnt.addrow {w : Sv} {t : List Int} {r : PS} {S : List HP} : SEnt (hsl tInt (vsv w) t :: hrows r :: S) (hrows ((w, t) :: r) :: S) :=
  (SEnt.pick (B := [hrows r, hsl tInt (vsv w) t]) (.cons (.tail .head) (.cons .head .nil))).trans (SEnt.insrow (p1 := []) (p2 := r))
section
variable {P : Program} {n : Nat} {φ : Slots} {S : List HP} {d : Option Tmp} {ty : TypeId} {ps : String} {af : Array Edge} {g : Option (Nat × Bool)}
/-- append of a row that is kept among rows -/
theorem EOp.appQ {t t2 e e2 k2 by' : Nat} {z : Value} [ht : IsSlM P t e 1 by' z] [h2 : IsSl P t2 e2 k2] {x y : Operand} {b len cap : Nat} {xs ys : List Int} {w : Sv} {qs : PS} {C : HP → List HP}
    (hx : opd φ x = some (vsb b len cap)) (hy : opd φ y = some (vlit (vsv w))) (hh : Has S (hrows qs)) (hm : (w, ys) ∈ qs) (hp : Plc S (harr b 1 (fun x : Int => [vint x]) xs (cap * 1)) C) (hlen : len = xs.length)
    (hbound : (xs.length + ys.length) * by' ≤ 140737488355328) (h63 : xs.length + ys.length ≤ 140737488355328) :
    EOp P n φ S ⟨d, .call ⟨.builtin .append, #[x, y], #[t, t2]⟩, ty, ps, af, g⟩ (fun q S' => ∃ b' cap', q = vsb b' (xs.length + ys.length) cap' ∧ S' = C (harr b' 1 (fun x : Int => [vint x]) (xs ++ ys) (cap' * 1))) :=
  EOp.app hx hy hp hlen (fun c u ⟨fs, hs⟩ hu => by
    obtain ⟨f, _, fss, rfl, hr⟩ := hh.get hs.all
    obtain ⟨f2, h3⟩ := rows_mem hr _ hm
    have h4 : (vsl 1 (fun x : Int => [vint x]) ys).p ⟨fun _ => True, c.U, c.w⟩ (vsv w) := ownS.frz (t := tInt) (ownS.nf (F' := fun _ => True) (U' := c.U) h3) (fun _ _ => trivial)
    cases hu
    obtain ⟨vs, h5, h6⟩ := Src.sl h4 (by decide) (fun c v y p hp hv => OneR.one (r := fun x : Int => [vint x]) c v y p hp hv)
    refine ⟨vs, h5, fun j y hy => ⟨(h6 j y hy).1, fun o p hp => ?_⟩⟩
    obtain ⟨v, h7, h8⟩ := (h6 j y hy).2 o p hp
    cases o with
    | zero => cases hp; exact ⟨v, h7, h8⟩
    | succ o => cases hp) hbound h63
theorem RH.appQ {ops : Array Oper} {ll : List Oper} {K : Slots → List HP → Prop} {t t2 e e2 k2 by' : Nat} {z : Value} [ht : IsSlM P t e 1 by' z] [h2 : IsSl P t2 e2 k2] {x y : Operand} {b len cap : Nat} {xs ys : List Int} {w : Sv} {qs : PS} {C : HP → List HP} {dd : Nat} (hn : Nat.blt dd n = true)
    (hx : opd φ x = some (vsb b len cap)) (hy : opd φ y = some (vlit (vsv w))) (hh : Has S (hrows qs)) (hm : (w, ys) ∈ qs) (hp : Plc S (harr b 1 (fun x : Int => [vint x]) xs (cap * 1)) C) (hlen : len = xs.length)
    (hbound : (xs.length + ys.length) * by' ≤ 140737488355328) (h63 : xs.length + ys.length ≤ 140737488355328) (hK : ∀ rr SS, (fun q S' => ∃ b' cap', q = vsb b' (xs.length + ys.length) cap' ∧ S' = C (harr b' 1 (fun x : Int => [vint x]) (xs ++ ys) (cap' * 1))) rr SS → RL P n ops ll K ((dd, rr) :: φ) SS) :
    RH P n ops ⟨some dd, .call ⟨.builtin .append, #[x, y], #[t, t2]⟩, ty, ps, af, g⟩ ll K φ S := RH.eff rfl hn (EOp.appQ hx hy hh hm hp hlen hbound h63) hK
end
/-- rows of one's own are lent -/
theorem Spec.lendq {P : Program} {f : FuncId} {args qs : List VP} {R : VP → List HP → Prop} (ps : PS) (h : Spec P f qs [] R)
    (hq : ∀ c vs, Args c args vs → (∀ p ∈ ps, (vsl 1 (fun x : Int => [vint x]) p.2).p c (vsv p.1)) → Args c qs vs) (hR : ∀ r H, R r H → NF r ∧ NFHs H) :
    Spec P f args [hrows ps] (fun r S' => ∃ H, R r H ∧ S' = H ++ [hrows ps]) := by
  refine Spec.lend (B := [hrows ps]) (S := []) h ?_ hR
  intro c vs fs ha hB hF
  cases hB with
  | cons h1 hB =>
    cases hB
    obtain ⟨fss, rfl, h3⟩ := h1
    exact hq c vs ha (rows_are h3 fun b hb => hF b (by simpa using hb))
/-- the order of terms as the program tells it -/
def cmpT (a b : List Int) : Int := if a.length < b.length then -1 else if b.length < a.length then 1 else cmp a b
theorem cmp_pos : ∀ {a b : List Int}, a.length = b.length → (0 < cmp a b ↔ less b a = true)
  | [], [], _ => by simp [cmp, less]
  | [], _ :: _, h => by simp at h
  | _ :: _, [], h => by simp at h
  | x :: a, y :: b, h => by
    rw [cmp, less]
    by_cases e : x = y
    · rw [if_pos e, if_pos e.symm]
      exact cmp_pos (by simpa using h)
    · rw [if_neg e, if_neg (Ne.symm e)]
      by_cases l : x < y
      · rw [if_pos l]
        simp; omega
      · rw [if_neg l]
        simp; omega
theorem cmpT_pos {a b : List Int} : 0 < cmpT a b ↔ tlt b a = true := by
  rw [cmpT, tlt_iff]
  by_cases h1 : a.length < b.length
  · rw [if_pos h1]
    refine ⟨fun h => by omega, fun h => ?_⟩
    rcases h with h | ⟨h, _⟩ <;> omega
  · rw [if_neg h1]
    by_cases h2 : b.length < a.length
    · rw [if_pos h2]
      exact ⟨fun _ => .inl h2, fun _ => by decide⟩
    · rw [if_neg h2, cmp_pos (by omega)]
      refine ⟨fun h => .inr ⟨by omega, h⟩, fun h => ?_⟩
      rcases h with h | ⟨_, h⟩
      · omega
      · exact h
set_option maxRecDepth 10000 in
theorem compareTerms_c (a b : List Int) (ha : a.length ≤ 4611686018427387904) (hb : b.length ≤ 4611686018427387904) :
    Spec Try.prog 66 [vsl 1 (fun x : Int => [vint x]) a, vsl 1 (fun x : Int => [vint x]) b] [] (fun r S' => r = vint (cmpT a b) ∧ S' = []) := by
  refine Spec.of_run2 (n := 20) Try.func66 rfl Try.results66 Try.ntmps66 rfl ?_
  repeat' (first | (with_reducible first | refine RL.done ?_ | refine RL.app0 ?_) | (with_reducible refine RL.wanted ?_ ?_; exact rfl) | ((with_reducible show RH _ _ _ ⟨_, .call ⟨.value (.func 68), _, _⟩, _, _, _, _⟩ _ _ _ _); refine RH.cP Try.call68 ?_; refine ⟨_, compareLists_c a b (by omega) (by omega), ?_⟩; rintro _ _ ⟨rfl, rfl⟩) | ((with_reducible show RH _ _ _ _ _ _ _ _); refine RH.val (hK := ?_)) | (with_reducible first | refine Run.seq ?_ | refine Run.region ?_ | refine Run.block ?_ | refine Run.skip ?_ | refine Run.ret ?_) | (with_reducible show Run _ _ (.cond _ _ _) _ _ _; refine Run.condD rfl (fun h => ?_) (fun h => ?_)) | (with_reducible first | refine seqN (K := Run _ _ _ _) ?_ | refine seqR ?_ | refine blockN ?_ | refine blockR ?_))
  all_goals first
    | (refine ⟨eA, _, [], resA, .ch .nil, ?_⟩
       exact ⟨congrArg vint (by rw [cmpT, if_pos (by omega)]), rfl⟩)
    | (refine ⟨eA, _, [], resA, .ch .nil, ?_⟩
       exact ⟨congrArg vint (by rw [cmpT, if_neg (by omega), if_pos (by omega)]), rfl⟩)
    | (refine ⟨eA, _, [], resA, .ch .nil, ?_⟩
       exact ⟨congrArg vint (by rw [cmpT, if_neg (by omega), if_neg (by omega)]), rfl⟩)
    | trace_state
theorem compareQ_c (ps : PS) (u w : Sv) (a b : List Int) (hu : (u, a) ∈ ps) (hw : (w, b) ∈ ps) (ha : a.length ≤ 4611686018427387904) (hb : b.length ≤ 4611686018427387904) :
    Spec Try.prog 66 [vlit (vsv u), vlit (vsv w)] [hrows ps] (fun r S' => r = vint (cmpT a b) ∧ S' = [hrows ps]) := by
  refine (Spec.lendq ps (compareTerms_c a b ha hb) ?_ ?_).mono ?_
  · intro c vs ha hp
    cases ha with
    | cons p1 ha =>
      cases ha with
      | cons p2 ha =>
        cases ha; cases p1; cases p2
        exact .cons (hp _ hu) (.cons (hp _ hw) .nil)
  · rintro r H ⟨rfl, rfl⟩
    exact ⟨inferInstance, inferInstance⟩
  · rintro r S' ⟨H, ⟨rfl, rfl⟩, rfl⟩
    exact ⟨rfl, rfl⟩
end Go.Proofs.Ytemfpennomelaaa
