/- The search for least terms by rounds until nothing changes, in plain terms. No program in sight. -/
import Derived.Test.YtemfpennomelaaaFtfF
namespace Go.Proofs.Ytemfpennomelaaa
open Go Go.Proofs
set_option linter.unusedVariables false
/-- the term that an operation over numbers makes -/
def rxT (j : Nat) (B : List (List Int)) (ns : List Int) : List Int := (-1 - (j : Int)) :: (chosen B ns).flatten
/-- whether it is taken for a place -/
def rxB (j : Nat) (B : List (List Int)) (ns : List Int) (p : Nat) : Bool :=
  (chosen B ns).all (fun u => decide (u ≠ [])) && (decide ((rxT j B ns).length ≤ 60) && (decide (B.getD p [] = []) || tlt (rxT j B ns) (B.getD p [])))
def rx (j : Nat) (B : List (List Int)) (ns : List Int) (p : Nat) : List (List Int) := if rxB j B ns p then B.set p (rxT j B ns) else B
theorem rxB_at {j : Nat} {B : List (List Int)} {ns : List Int} {p : Nat} (h : rxB j B ns p = true) : (∀ u ∈ chosen B ns, u ≠ []) ∧ (rxT j B ns).length ≤ 60 ∧ (B.getD p [] = [] ∨ tlt (rxT j B ns) (B.getD p []) = true) := by
  simp only [rxB, Bool.and_eq_true, Bool.or_eq_true, List.all_eq_true, decide_eq_true_eq] at h
  exact h
theorem rxB_of {j : Nat} {B : List (List Int)} {ns : List Int} {p : Nat} (h1 : ∀ u ∈ chosen B ns, u ≠ []) (h2 : (rxT j B ns).length ≤ 60) (h3 : B.getD p [] = [] ∨ tlt (rxT j B ns) (B.getD p []) = true) : rxB j B ns p = true := by
  simp only [rxB, Bool.and_eq_true, Bool.or_eq_true, List.all_eq_true, decide_eq_true_eq]
  exact ⟨h1, h2, h3⟩
theorem rxB_no {j : Nat} {B : List (List Int)} {ns : List Int} {p : Nat} (h : ¬ ((∀ u ∈ chosen B ns, u ≠ []) ∧ (rxT j B ns).length ≤ 60 ∧ (B.getD p [] = [] ∨ tlt (rxT j B ns) (B.getD p []) = true))) : rxB j B ns p = false := by
  cases e : rxB j B ns p with
  | false => rfl
  | true => exact absurd (rxB_at e) h
structure Rx (n : Int) (os : List (Int × List Int)) (k : Nat) (G L B : List (List Int)) : Prop where
  len : B.length = L.length
  snd : SndO n os k G L B
  gen : GenO G L B G.length
/-! ### the measure -/
def Lett (t : List Int) : Prop := ∀ x ∈ t, -16 ≤ x ∧ x < 16
theorem made_lett {n : Int} {os : List (Int × List Int)} {k : Nat} {G : List (List Int)} (hG : G.length ≤ 6) (ho : os.length ≤ 4) {u t : List Int} (h : Made n os k G u t) : Lett u := by
  induction h with
  | gen h => intro x hx; rw [List.mem_singleton] at hx; omega
  | @op j hj us ts h1 h2 hm ih =>
    intro x hx
    rcases List.mem_cons.1 hx with rfl | hx
    · omega
    · obtain ⟨u, hu, hx⟩ := List.mem_flatten.1 hx
      obtain ⟨i, hi, rfl⟩ := List.getElem_of_mem hu
      exact ih i hi (by omega) x hx
def tval : List Int → Nat
  | [] => 0
  | x :: l => (x + 16).toNat * 32 ^ l.length + tval l
theorem tval_lt : ∀ {t : List Int}, Lett t → tval t < 32 ^ t.length
  | [], _ => by simp [tval]
  | x :: l, h => by
    have h1 := tval_lt (t := l) (fun y hy => h y (List.mem_cons_of_mem _ hy))
    have h2 := h x (by simp)
    have h3 : (x + 16).toNat + 1 ≤ 32 := by omega
    have h4 := Nat.mul_le_mul_right (32 ^ l.length) h3
    rw [Nat.add_mul, Nat.one_mul] at h4
    rw [tval, List.length_cons, Nat.pow_succ, Nat.mul_comm (32 ^ l.length) 32]
    omega
theorem less_tval : ∀ {s t : List Int}, s.length = t.length → Lett s → Lett t → less s t = true → tval s < tval t
  | [], t, _, _, _, h => by cases t <;> simp_all [less]
  | _ :: _, [], h, _, _, _ => by simp at h
  | x :: s, y :: t, hl, hs, ht, h => by
    have hl2 : s.length = t.length := by simpa using hl
    rw [less] at h
    rw [tval, tval, hl2]
    by_cases e : x = y
    · rw [if_pos e] at h
      subst e
      exact Nat.add_lt_add_left (less_tval hl2 (fun z hz => hs z (List.mem_cons_of_mem _ hz)) (fun z hz => ht z (List.mem_cons_of_mem _ hz)) h) _
    · rw [if_neg e] at h
      have hxy : x < y := by simpa using h
      have h1 := tval_lt (t := s) (fun z hz => hs z (List.mem_cons_of_mem _ hz))
      have h2 := hs x (by simp)
      have h3 : (x + 16).toNat + 1 ≤ (y + 16).toNat := by omega
      have h4 := Nat.mul_le_mul_right (32 ^ t.length) h3
      rw [Nat.add_mul, Nat.one_mul] at h4
      rw [hl2] at h1
      omega
def rk (W : Nat) (t : List Int) : Nat := if t = [] then 61 * W else t.length * W + tval t
def rks (W : Nat) (B : List (List Int)) : Nat := (B.map (rk W)).sum
theorem rk_lt {W : Nat} (hW : W = 32 ^ 60) {s t : List Int} (hs : Lett s) (ht : Lett t) (hne : s ≠ []) (hl : s.length ≤ 60) (h : t = [] ∨ tlt s t = true) : rk W s < rk W t := by
  have h1 := tval_lt hs
  have h2 : (32 : Nat) ^ s.length ≤ 32 ^ 60 := Nat.pow_le_pow_right (by decide) hl
  rw [← hW] at h2
  rw [rk, if_neg hne]
  by_cases e : t = []
  · rw [rk, if_pos e]
    have h3 := Nat.mul_le_mul_right W hl
    have h4 : 61 * W = 60 * W + W := by omega
    omega
  · rw [rk, if_neg e]
    rcases h with h | h
    · exact absurd h e
    · rw [tlt_iff] at h
      rcases h with h | ⟨h, h3⟩
      · have h4 := Nat.mul_le_mul_right W (show s.length + 1 ≤ t.length from h)
        rw [Nat.add_mul, Nat.one_mul] at h4
        omega
      · have := less_tval h hs ht h3
        rw [h]; omega
theorem rks_set {W : Nat} : ∀ {B : List (List Int)} {p : Nat} {t : List Int}, p < B.length → rk W t < rk W (B.getD p []) → rks W (B.set p t) < rks W B
  | [], _, _, h, _ => by simp at h
  | b :: B, 0, t, _, h => by
    simp only [rks, List.set_cons_zero, List.map_cons, List.sum_cons, List.getD_cons_zero] at h ⊢
    omega
  | b :: B, p + 1, t, hp, h => by
    have := rks_set (B := B) (p := p) (t := t) (by simpa using hp) (by simpa using h)
    simp only [rks, List.set_cons_succ, List.map_cons, List.sum_cons] at this ⊢
    omega
theorem chosen_get2 {X : List (List Int)} {ns : List Int} {i : Nat} (h : i < (chosen X ns).length) (h2 : i < ns.length) : (chosen X ns)[i] = X.getD (ns[i]).toNat [] := by simp [chosen]
theorem getD_mem {B : List (List Int)} {i : Nat} (h : i < B.length) : B.getD i [] ∈ B := by
  rw [List.getD_eq_getElem?_getD, List.getElem?_eq_getElem h]; exact List.getElem_mem h
/-- numbers that stand for tuples of the list -/
structure RxAt (n : Int) (os : List (Int × List Int)) (k : Nat) (L : List (List Int)) (j : Nat) (ns : List Int) (p : Nat) : Prop where
  hj : j < os.length
  len : ns.length = os[j].1.toNat
  num : ∀ x ∈ ns, 0 ≤ x ∧ x.toNat < L.length
  hp : p < L.length
  val : L[p] = applyT n os[j].2 (chosen L ns) k
theorem Rx.step {n : Int} {os : List (Int × List Int)} {k : Nat} {G L B : List (List Int)} (h : Rx n os k G L B) (hG : G.length ≤ 6) (ho : os.length ≤ 4) {j : Nat} {ns : List Int} {p : Nat} (ha : RxAt n os k L j ns p) (hb : rxB j B ns p = true) {W : Nat} (hW : W = 32 ^ 60) :
    Rx n os k G L (B.set p (rxT j B ns)) ∧ rks W (B.set p (rxT j B ns)) < rks W B := by
  obtain ⟨h1, h2, h3⟩ := rxB_at hb
  obtain ⟨hj, hl, hnum, hp, hval⟩ := ha
  have hpo : p < B.length := by rw [h.len]; exact hp
  have hmade : Made n os k G (rxT j B ns) L[p] := by
    rw [hval]
    refine .op hj (by rw [chosen_len]; exact hl) (by rw [chosen_len, chosen_len]) fun i k1 k2 => ?_
    have k3 : i < ns.length := by simpa [chosen_len] using k1
    have k4 := hnum _ (List.getElem_mem k3)
    have k5 := h1 _ (List.getElem_mem k1)
    rw [chosen_get2 k1 k3] at k5 ⊢
    rw [chosen_get2 k2 k3, List.getD_eq_getElem?_getD (l := L), List.getElem?_eq_getElem k4.2]
    exact (h.snd _ k4.2 k5).1
  have hs : B.set p (rxT j B ns) = bet B p (rxT j B ns) := by rw [bet, if_pos h3]
  refine ⟨⟨by simpa using h.len, by rw [hs]; exact h.snd.bet h.len hp hmade h2, by rw [hs]; exact h.gen.imp (bet_imp hpo hmade.ne)⟩, rks_set hpo (rk_lt hW (made_lett hG ho hmade) ?_ hmade.ne h2 h3)⟩
  by_cases e : B.getD p [] = []
  · rw [e]; intro x hx; cases hx
  · exact made_lett hG ho (h.snd p hp e).1
/-- nothing changes any more: the terms are the least -/
theorem Rx.best {n : Int} {os : List (Int × List Int)} {k : Nat} {G L B : List (List Int)} (h : Rx n os k G L B) (hn : L.Nodup) (hq : ∀ j (hj : j < os.length), ∀ i : Nat, (i : Int) < pw (L.length : Int) os[j].1.toNat → ∃ p, RxAt n os k L j (lowd (i : Int) (L.length : Int) os[j].1.toNat) p ∧ rxB j B (lowd (i : Int) (L.length : Int) os[j].1.toNat) p = false) : BestT n os k G L (bO L B) := by
  refine best_of hn h.snd h.gen fun j hj ts hl ht h60 => ?_
  obtain ⟨i, hi, rfl⟩ := chosen_all (X := L) (r := os[j].1.toNat) hl (fun u hu => (ht u hu).1)
  obtain ⟨p, ⟨_, hlen, hnum, hp, hval⟩, hb⟩ := hq j hj i hi
  generalize lowd (i : Int) (L.length : Int) os[j].1.toNat = ns at *
  have e : (chosen L ns).map (bO L B) = chosen B ns := by
    rw [chosen, chosen, List.map_map]
    refine List.map_congr_left fun x hx => ?_
    have k4 := hnum x hx
    show bO L B (L.getD x.toNat []) = _
    rw [List.getD_eq_getElem?_getD, List.getElem?_eq_getElem k4.2]
    exact bO_at hn k4.2
  have hne : ∀ u ∈ chosen B ns, u ≠ [] := fun u hu => by
    rw [← e] at hu
    obtain ⟨t, h1, rfl⟩ := List.mem_map.1 hu
    exact (ht t h1).2
  rw [e] at h60 ⊢
  rw [← hval, bO_at hn hp]
  have hb2 : ¬ (B.getD p [] = [] ∨ tlt (rxT j B ns) (B.getD p []) = true) := fun h3 => by
    rw [rxB_of hne (by rw [rxT, List.length_cons]; omega) h3] at hb
    cases hb
  refine ⟨fun e => hb2 (.inl e), tle_of_not ?_⟩
  cases h2 : tlt (rxT j B ns) (B.getD p []) with
  | true => exact absurd (.inr h2) hb2
  | false => exact h2
end Go.Proofs.Ytemfpennomelaaa
