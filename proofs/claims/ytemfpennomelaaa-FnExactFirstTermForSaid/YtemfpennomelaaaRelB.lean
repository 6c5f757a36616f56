/- The digits of a number: impl.argsAt, spec.l2Args. Proved for this program; conditions: no number below 0, a base of at least 1, up to 2^20 digits. -/
import Derived.Test.YtemfpennomelaaaRelA
namespace Go.Proofs.Ytemfpennomelaaa
open Go Go.Proofs

def dv (i n : Int) : Nat → Int
  | 0 => i
  | m + 1 => dv i n m / n
def lowd (i n : Int) : Nat → List Int
  | 0 => []
  | m + 1 => (dv i n m % n) :: lowd i n m
theorem lowd_length (i n : Int) (m : Nat) : (lowd i n m).length = m := by induction m <;> simp_all [lowd]
theorem dv_bound (i n : Int) (h0 : 0 ≤ i) (hn : 1 ≤ n) : ∀ m, 0 ≤ dv i n m ∧ dv i n m ≤ i
  | 0 => ⟨h0, Int.le_refl _⟩
  | m + 1 => by
    obtain ⟨h1, h2⟩ := dv_bound i n h0 hn m
    have h3 : dv i n m / n ≤ dv i n m := Int.ediv_le_self _ h1
    have h4 : 0 ≤ dv i n m / n := Int.ediv_nonneg h1 (by omega)
    simp only [dv]; omega

theorem lowd_set (i n : Int) (k m : Nat) (h : m < k) : (List.replicate (k - m) (0 : Int) ++ lowd i n m).set (((k : Int) - 1 - m).toNat) (dv i n m % n) = List.replicate (k - (m + 1)) 0 ++ lowd i n (m + 1) := by
  have e : k - m = (k - (m + 1)) + 1 := by omega
  have e2 : (((k : Int) - 1 - m).toNat) = k - (m + 1) := by omega
  rw [e2, e, List.replicate_succ', List.append_assoc, List.set_append_right _ _ (by simp)]
  simp [lowd]

set_option maxRecDepth 10000 in
theorem argsAt_c (i n : Int) (k : Nat) (h0 : 0 ≤ i) (hi : i ≤ 1152921504606846976) (hn : 1 ≤ n) (hk : k ≤ 1048576) :
    Spec Try.prog 65 [vint i, vint (k : Int), vint n] [] (fun r S' => ∃ s : Sv, r = vlit (vsv s) ∧ S' = [hsl tInt (vsv s) (lowd i n k)]) := by
  refine Spec.of_run2 (n := 27) Try.func65 rfl Try.results65 Try.ntmps65 rfl ?_
  repeat' (first | (with_reducible refine RL.done ?_) | (with_reducible refine RL.wanted ?_ ?_; exact rfl) | ((with_reducible show RH _ _ _ ⟨some 10, .makeSlice _ _ _, _, _, _, _⟩ _ _ _ _); refine RH.make (α := Int) rfl (fun x => [vint x]) 0 (fun c => .cons rfl .nil) rfl rfl (by omega) (by omega) (by omega) ?_; rintro _ _ ⟨b10, rfl, rfl⟩) | ((with_reducible show RH _ _ _ _ _ _ _ _); refine RH.val (hK := ?_)) | (with_reducible first | refine Run.seq ?_ | refine Run.region ?_ | refine Run.block ?_) | (with_reducible refine seqN (K := Run _ _ _ _) ?_))
  refine Run.loop (α := Nat) (fun m => [(0, vint (dv i n m)), (2, vint n), (7, vsb b10 k k), (8, vint ((k : Int) - 1 - m))]) (fun m => [harr b10 1 (fun x => [vint x]) (List.replicate (k - m) (0 : Int) ++ lowd i n m) (k * 1)]) (fun j => j ≤ k) (fun j => k - j) 0 (by omega)
    (Ent.of slA (.cons .head (by simp [lowd]) .nil)) ?_
  intro m hm
  have hb := dv_bound i n h0 hn m
  have hl : (List.replicate (k - m) (0 : Int) ++ lowd i n m).length = k := by simp [lowd_length]; omega
  repeat' (first | (with_reducible refine RL.done ?_) | (with_reducible refine RL.wanted ?_ ?_; exact rfl) | ((with_reducible show RH _ _ _ _ _ _ _ _); first | refine RH.val (hK := ?_) | refine RH.upd (hK := ?_)) | (with_reducible first | refine Run.seq ?_ | refine Run.region ?_ | refine Run.block ?_ | refine Run.skip ?_ | refine Run.exit ?_ | refine Run.ret ?_) | (with_reducible show Run _ _ (.cond _ _ _) _ _ _; refine Run.condD rfl (fun h => ?_) (fun h => ?_)) | (with_reducible first | refine seqN (K := Run _ _ _ _) ?_ | refine seqE ?_ | refine blockN ?_ | refine blockE ?_))
  · with_reducible refine seqN ?_
    exact ⟨m + 1, by omega, by omega, Ent.of slA (.cons .head (congrArg (fun xs => harr b10 1 (fun x => [vint x]) xs (k * 1)) (lowd_set i n k m (by omega))) .nil)⟩
  · obtain rfl : m = k := by omega
    refine ⟨eA, _, [hsl tInt (vsv (some ⟨b10, 0, none⟩, m, m)) (lowd i n m)], resA, ?_, ?_⟩
    · exact (SEnt.ch (.cons .head (by simp) .nil)).trans (SEnt.pack (fun _ => rfl) (lowd_length i n m).symm)
    · exact ⟨(some ⟨b10, 0, none⟩, m, m), rfl, rfl⟩

end Go.Proofs.Ytemfpennomelaaa
