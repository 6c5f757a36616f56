/- The search for least terms, the shortest first, in plain terms. No program in sight. -/
import Derived.Test.YtemfpennomelaaaFtfD
import Derived.Test.YtemfpennomelaaaClsQ
namespace Go.Proofs.Ytemfpennomelaaa
open Go Go.Proofs
set_option linter.unusedVariables false
/-- the places of `line` are done, the last of them is p0 -/
structure Dk (n : Int) (os : List (Int × List Int)) (k : Nat) (G X : List (List Int)) (line : List Int) (p0 : Nat) (out : List (List Int)) : Prop where
  len : out.length = X.length
  snd : SndO n os k G X out
  gen : GenO G X out G.length
  zero : ∀ j (hj : j < os.length), os[j].1 = 0 → CovO n os k X out j os[j].2 []
  mem : ∀ x ∈ line, 0 ≤ x ∧ x.toNat < X.length ∧ out.getD x.toNat [] ≠ [] ∧ (out.getD x.toNat []).length ≤ (out.getD p0 []).length
  front : ∀ x ∈ line, ∀ i, i < X.length → (i : Int) ∉ line → out.getD i [] ≠ [] → tle (out.getD x.toNat []) (out.getD i [])
  at0 : (p0 : Int) ∈ line
theorem Dk.keep {n : Int} {os : List (Int × List Int)} {k : Nat} {G X : List (List Int)} {line : List Int} {p0 : Nat} {out : List (List Int)} (h : Dk n os k G X line p0 out) {p : Nat} {t : List Int} (hl : (out.getD p0 []).length < t.length) {x : Int} (hx : x ∈ line) : (bet out p t).getD x.toNat [] = out.getD x.toNat [] := by
  obtain ⟨_, _, h3, h4⟩ := h.mem x hx
  exact bet_keep h3 (by omega)
theorem Dk.bet {n : Int} {os : List (Int × List Int)} {k : Nat} {G X : List (List Int)} {line : List Int} {p0 : Nat} {out : List (List Int)} (h : Dk n os k G X line p0 out) {p : Nat} (hp : p < X.length) {t : List Int} (hm : Made n os k G t X[p]) (h60 : t.length ≤ 60) (hl : (out.getD p0 []).length < t.length) : Dk n os k G X line p0 (bet out p t) := by
  have hpo : p < out.length := by rw [h.len]; exact hp
  have himp := bet_imp hpo hm.ne
  have h0 : (Go.Proofs.Ytemfpennomelaaa.bet out p t).getD p0 [] = out.getD p0 [] := by simpa using h.keep hl h.at0
  refine ⟨(bet_len _ _ _).trans h.len, h.snd.bet h.len hp hm h60, h.gen.imp himp, fun j hj hz => (h.zero j hj hz).imp himp (fun t ht => by cases ht), fun x hx => ?_, fun x hx i hi hni hne => ?_, h.at0⟩
  · rw [h.keep hl hx, h0]; exact h.mem x hx
  · rw [h.keep hl hx]
    obtain ⟨_, _, _, h4⟩ := h.mem x hx
    by_cases e : i = p
    · subst e
      rcases bet_eq (t := t) hpo with h5 | ⟨h5, h6, _⟩
      · rw [h5]; exact .inr (tlt_iff.2 (.inl (by omega)))
      · rw [h5]; exact h.front x hx i hi hni h6
    · rw [bet_ne e] at hne ⊢; exact h.front x hx i hi hni hne
/-- a tuple of a done place -/
def OnLine (X : List (List Int)) (line : List Int) (t : List Int) : Prop := ∃ i, ∃ h : i < X.length, (i : Int) ∈ line ∧ t = X[i]
theorem Dk.bo {n : Int} {os : List (Int × List Int)} {k : Nat} {G X : List (List Int)} {line : List Int} {p0 : Nat} {out : List (List Int)} (h : Dk n os k G X line p0 out) (hn : X.Nodup) {p : Nat} {t : List Int} (hl : (out.getD p0 []).length < t.length) {u : List Int} (hu : OnLine X line u) : bO X (Go.Proofs.Ytemfpennomelaaa.bet out p t) u = bO X out u := by
  obtain ⟨i, hi, h1, rfl⟩ := hu
  rw [bO_at hn hi, bO_at hn hi]
  simpa using h.keep hl h1
theorem Dk.cov {n : Int} {os : List (Int × List Int)} {k : Nat} {G X : List (List Int)} {line : List Int} {p0 : Nat} {out : List (List Int)} (h : Dk n os k G X line p0 out) (hn : X.Nodup) {p : Nat} (hp : p < X.length) {t : List Int} (ht : t ≠ []) (hl : (out.getD p0 []).length < t.length) {j : Nat} {tb : List Int} {ts : List (List Int)} (hts : ∀ u ∈ ts, OnLine X line u) (hc : CovO n os k X out j tb ts) : CovO n os k X (Go.Proofs.Ytemfpennomelaaa.bet out p t) j tb ts :=
  hc.imp (bet_imp (by rw [h.len]; exact hp) ht) fun u hu => h.bo hn hl (hts u hu)
/-- the term that is tried is covered then -/
theorem Dk.now {n : Int} {os : List (Int × List Int)} {k : Nat} {G X : List (List Int)} {line : List Int} {p0 : Nat} {out : List (List Int)} (h : Dk n os k G X line p0 out) (hn : X.Nodup) {p : Nat} (hp : p < X.length) {j : Nat} {tb : List Int} {ts : List (List Int)} (hts : ∀ u ∈ ts, OnLine X line u) (hpt : X[p] = applyT n tb ts k) (hl : (out.getD p0 []).length < 1 + (ts.map (bO X out)).flatten.length) :
    CovO n os k X (Go.Proofs.Ytemfpennomelaaa.bet out p ((-1 - (j : Int)) :: (ts.map (bO X out)).flatten)) j tb ts := by
  have hl2 : (out.getD p0 []).length < ((-1 - (j : Int)) :: (ts.map (bO X out)).flatten).length := by rw [List.length_cons]; omega
  have e : ts.map (bO X (Go.Proofs.Ytemfpennomelaaa.bet out p ((-1 - (j : Int)) :: (ts.map (bO X out)).flatten))) = ts.map (bO X out) := List.map_congr_left fun u hu => h.bo hn hl2 (hts u hu)
  rw [CovO, e]
  intro _
  rw [← hpt, bO_at hn hp]
  exact bet_at (by rw [h.len]; exact hp) (by simp)
theorem Dk.long {n : Int} {os : List (Int × List Int)} {k : Nat} {G X : List (List Int)} {line : List Int} {p0 : Nat} {out : List (List Int)} (h : Dk n os k G X line p0 out) (hn : X.Nodup) {ts : List (List Int)} (hp0 : p0 < X.length) (hu : X[p0] ∈ ts) : (out.getD p0 []).length < 1 + (ts.map (bO X out)).flatten.length := by
  obtain ⟨i, hi, e⟩ := List.getElem_of_mem hu
  have h1 := flat_mem_len (us := ts.map (bO X out)) (i := i) (by simpa using hi)
  rw [List.getElem_map, e, bO_at hn hp0] at h1
  omega
end Go.Proofs.Ytemfpennomelaaa
