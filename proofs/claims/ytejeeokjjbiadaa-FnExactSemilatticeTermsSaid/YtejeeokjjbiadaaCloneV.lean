/- What a finished clone is like. Proved in plain Lean; no conditions. -/
import Derived.Test.YtejeeokjjbiadaaCloneU
namespace Go.Proofs.Ytejeeokjjbiadaa
open Go Go.Proofs
set_option linter.unusedVariables false

theorem cloneV_inv {n : Int} {os : List (Int × List Int)} {k : Int} {c : CS} (h : cloneV n os k = some c) : ∃ size : Nat, CInv n size c ∧ c.1.length ≤ 60 ∧ size ≤ 27 ∧ n ≤ 8 ∧ 1 ≤ n ∧ algB n os = true ∧ rangeB n k = true ∧ (size : Int) = pw n k.toNat := by
  cases ha : algB n os with
  | false => simp [cloneV, ha] at h
  | true =>
    cases hr : rangeB n k with
    | false => simp [cloneV, hr] at h
    | true =>
      obtain ⟨m, size, rfl, hm1, hm3, hs, h27, hv⟩ := cloneV_at ha hr
      obtain ⟨h1, h8, h4, hops⟩ := algB_at ha
      obtain ⟨h2, h3, h5⟩ := initC_inv (k := m) (size := size) h1 m (Nat.le_refl _)
      rw [hv] at h
      have hrun : ∀ (f : Nat) (c c' : CS) (old : Int), CInv n size c → c.1.length ≤ 60 → 1 ≤ c.1.length → cloneR n size os f c old = some c' → CInv n size c' ∧ c'.1.length ≤ 60 := by
        intro f
        induction f with
        | zero => intro c c' old h6 h7 h9 h10; cases h10; exact ⟨h6, h7⟩
        | succ f ih =>
          intro c c' old h6 h7 h9 h10
          rw [cloneR] at h10
          split at h10
          · cases h11 : rndL n size os c.1.length c with
            | none => rw [h11] at h10; cases h10
            | some c1 =>
              rw [h11] at h10
              have h12 : CInv n size c1 ∧ c.1.length ≤ c1.1.length ∧ c1.1.length ≤ 60 := by
                refine foldlM_inv (I := fun c' => CInv n size c' ∧ c.1.length ≤ c'.1.length ∧ c'.1.length ≤ 60) _ c c1 ?_ ⟨h6, Nat.le_refl _, h7⟩ h11
                rintro c2 c3 ⟨f2, j⟩ hmem ⟨hi1, hl1, h601⟩ hs2
                have hfm : f2 ∈ os := by
                  obtain ⟨q, hq⟩ := List.mem_iff_getElem?.1 hmem
                  rw [List.getElem?_zipIdx] at hq
                  cases h1 : os[q]? with
                  | none => rw [h1] at hq; cases hq
                  | some y => rw [h1] at hq; cases hq; exact List.mem_of_getElem? h1
                have hS : opS n size c.1.length 0 c2 (f2, j) = some c3 := by
                  rw [← hs2]
                  refine foldlM_eq (I := fun _ => True) (fun _ _ _ _ _ => trivial) _ _ trivial ?_
                  intro c4 _ i _
                  rw [stepS, if_pos (by simp [fresh])]
                obtain ⟨h13, h14, h15⟩ := opS_inv h1 h8 h27 (hops f2 hfm) h9 hi1 h601 hl1 hS
                exact ⟨h13, by omega, h15⟩
              exact ih c1 c' _ h12.1 h12.2.2 (by omega) h10
          · cases h10; exact ⟨h6, h7⟩
      obtain ⟨h6, h7⟩ := hrun 62 _ _ _ h2 (by omega) (h5 hm1) h
      exact ⟨size, h6, h7, h27, h8, h1, rfl, rfl, hs.symm⟩
end Go.Proofs.Ytejeeokjjbiadaa
