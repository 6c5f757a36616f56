/- The index of arguments in a table, a list composed with another: impl.indexOf, compose. Proved for this program; conditions: up to 3 arguments below a base of up to 8; indices in range. -/
import Derived.Test.YtiifdhdhjioefaaPatL
import Derived.Test.YtiifdhdhjioefaaOps
namespace Go.Proofs.Ytiifdhdhjioefaa
open Go Go.Proofs
set_option linter.unusedVariables false

def hor (n : Int) (l : List Int) : Int := l.foldl (fun acc x => acc * n + x) 0
theorem hor_snoc (n : Int) (l : List Int) (x : Int) : hor n (l ++ [x]) = hor n l * n + x := by simp [hor]
theorem hor_succ (n : Int) (l : List Int) (j : Nat) (h : j < l.length) : hor n (l.take (j + 1)) = hor n (l.take j) * n + l[j] := by
  rw [List.take_add_one, List.getElem?_eq_getElem h]; exact hor_snoc _ _ _
theorem hor_bound (n : Int) (h0 : 0 ≤ n) (l : List Int) (h : elB n l = true) : ∀ j, j ≤ l.length → 0 ≤ hor n (l.take j) ∧ hor n (l.take j) < pw n j
  | 0, _ => by simp [hor, pw]
  | j + 1, hj => by
    obtain ⟨h1, h2⟩ := hor_bound n h0 l h j (by omega)
    have hx := List.getElem_mem (show j < l.length by omega)
    rw [elB, List.all_eq_true] at h
    have h3 := h _ hx
    simp only [decide_eq_true_eq] at h3
    rw [hor_succ n l j (by omega)]
    have h4 : 0 ≤ hor n (l.take j) * n := Int.mul_nonneg h1 h0
    have h5 : (hor n (l.take j) + 1) * n ≤ pw n j * n := Int.mul_le_mul_of_nonneg_right (by omega) h0
    rw [Int.add_mul] at h5
    simp only [pw]; omega

theorem pw_512' (n : Int) (h0 : 1 ≤ n) (h8 : n ≤ 8) (k : Nat) (hk : k ≤ 3) : pw n k ≤ 512 := by
  have h1 : pw n 1 = n := by simp [pw]
  have h2 : pw n 2 ≤ 8 * 8 := Int.mul_le_mul (by omega : pw n 1 ≤ 8) h8 (by omega) (by decide)
  have h3 : pw n 3 ≤ 64 * 8 := Int.mul_le_mul h2 h8 (by omega) (by decide)
  match k, hk with
  | 0, _ => simp [pw]
  | 1, _ => omega
  | 2, _ => omega
  | 3, _ => omega

def comp (f g : List Int) : List Int := f.map fun v => g.getD v.toNat 0
theorem comp_set (f g : List Int) (j : Nat) (h : j < f.length) (hv : (f[j]).toNat < g.length) : ((comp f g).take j ++ List.replicate ((comp f g).length - j) (0 : Int)).set j (g[(f[j]).toNat]) = (comp f g).take (j + 1) ++ List.replicate ((comp f g).length - (j + 1)) 0 := by
  have e := copy_set (comp f g) j (by simpa [comp] using h)
  rw [← e]; congr 1; simp [comp, List.getD, hv]
set_option maxRecDepth 10000 in
theorem compose_c (f g : List Int) (hf : f.length ≤ 1048576) (hv : ∀ v ∈ f, 0 ≤ v ∧ v < g.length) :
    Spec Try.prog 94 [vsl 1 (fun x : Int => [vint x]) f, vsl 1 (fun x : Int => [vint x]) g] [] (fun r S' => ∃ s : Sv, r = vlit (vsv s) ∧ S' = [hsl tInt (vsv s) (comp f g)]) := by
  have hcl : (comp f g).length = f.length := by simp [comp]
  refine Spec.of_run2 (n := 27) Try.func94 rfl Try.results94 Try.ntmps94 rfl ?_
  repeat' (first | (with_reducible refine RL.done ?_) | (with_reducible refine RL.wanted ?_ ?_; exact rfl) | ((with_reducible show RH _ _ _ ⟨some 10, .makeSlice _ _ _, _, _, _, _⟩ _ _ _ _); refine RH.make (α := Int) rfl (fun x => [vint x]) 0 (fun c => .cons rfl .nil) rfl rfl (by omega) (by omega) (by omega) ?_; rintro _ _ ⟨b10, rfl, rfl⟩) | ((with_reducible show RH _ _ _ _ _ _ _ _); refine RH.val (hK := ?_)) | (with_reducible first | refine Run.seq ?_ | refine Run.region ?_ | refine Run.block ?_) | (with_reducible refine seqN (K := Run _ _ _ _) ?_))
  refine Run.loop (α := Nat) (fun j => [(1, vsl 1 (fun x : Int => [vint x]) g), (5, vsb b10 f.length f.length), (11, vsl 1 (fun x : Int => [vint x]) f), (12, vint (f.length : Int)), (13, vint (j : Int))]) (fun j => [harr b10 1 (fun x : Int => [vint x]) ((comp f g).take j ++ List.replicate ((comp f g).length - j) (0 : Int)) (f.length * 1)]) (fun j => j ≤ f.length) (fun j => f.length - j) 0 (by simp) (Ent.of slA (.cons .head (by simp [hcl]) .nil)) ?_
  intro j hj
  have hl : ((comp f g).take j ++ List.replicate ((comp f g).length - j) (0 : Int)).length = f.length := by simp [hcl]; omega
  rcases Nat.lt_or_eq_of_le hj with h9 | rfl
  · have hx := hv _ (List.getElem_mem h9)
    repeat' (first | (with_reducible refine RL.done ?_) | (with_reducible refine RL.wanted ?_ ?_; exact rfl) | ((with_reducible show RH _ _ _ _ _ _ _ _); first | refine RH.val (hK := ?_) | refine RH.upd (hK := ?_)) | (with_reducible first | refine Run.seq ?_ | refine Run.region ?_ | refine Run.block ?_ | refine Run.skip ?_ | refine Run.exit ?_ | refine Run.ret ?_) | (with_reducible show Run _ _ (.cond _ _ _) _ _ _; refine Run.condD rfl (fun h => ?_) (fun h => ?_)) | (with_reducible first | refine seqN (K := Run _ _ _ _) ?_ | refine seqE ?_ | refine blockN ?_ | refine blockE ?_))
    · with_reducible refine seqN ?_
      exact ⟨j + 1, by omega, by omega, Ent.of slA (.cons .head (congrArg (fun ys => harr b10 1 (fun x : Int => [vint x]) ys (f.length * 1)) (comp_set f g j h9 (by omega))) .nil)⟩
    · exfalso; omega
  · repeat' (first | (with_reducible refine RL.done ?_) | (with_reducible refine RL.wanted ?_ ?_; exact rfl) | ((with_reducible show RH _ _ _ _ _ _ _ _); first | refine RH.val (hK := ?_) | refine RH.upd (hK := ?_)) | (with_reducible first | refine Run.seq ?_ | refine Run.region ?_ | refine Run.block ?_ | refine Run.skip ?_ | refine Run.exit ?_ | refine Run.ret ?_) | (with_reducible show Run _ _ (.cond _ _ _) _ _ _; refine Run.condD rfl (fun h => ?_) (fun h => ?_)) | (with_reducible first | refine seqN (K := Run _ _ _ _) ?_ | refine seqE ?_ | refine blockN ?_ | refine blockE ?_))
    · exfalso; omega
    · refine ⟨eA, _, [hsl tInt (vsv (some ⟨b10, 0, none⟩, f.length, f.length)) (comp f g)], resA, ?_, ?_⟩
      · exact (SEnt.ch (.cons .head (by rw [← hcl]; simp) .nil)).trans (SEnt.pack (fun _ => rfl) hcl.symm)
      · exact ⟨(some ⟨b10, 0, none⟩, f.length, f.length), rfl, rfl⟩
end Go.Proofs.Ytiifdhdhjioefaa
