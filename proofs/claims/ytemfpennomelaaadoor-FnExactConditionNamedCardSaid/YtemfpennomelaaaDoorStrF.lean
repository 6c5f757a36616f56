/- strings.Count, Index, Split, TrimSuffix, Cut at a separator of one byte; impl.digitsOf. Proved for this program; conditions: texts of at most 2^20 bytes. -/
import Derived.Test.YtemfpennomelaaaDoorStrE
import Derived.Lib.Slices
import Derived.Lib.Walk
import Derived.Lib.Bytealg
import Derived.WalkKit
namespace Go.Proofs.YtemfpennomelaaaDoor
open Go Go.Proofs
set_option linter.unusedVariables false
set_option maxHeartbeats 1000000 in
set_option maxRecDepth 100000 in
theorem ixByteW (s : ByteArray) (c : Int) (w : World) :
    Calls Tryd.prog 59 #[.string s, .int .u8 c] w fun e w' => e = .returned (.int .i64 (Lib.indexByte s.data.toList c.toNat.toUInt8)) ∧ w' = w := by
  go_enter Tryd.func59, Tryd.ntmps59
  go_wp2
  rw [run_callFunc_extern Tryd.func65 (by kernel_rfl) (by kernel_rfl) (by kernel_rfl) (e := Extern.BytealgIndexByte.indexByte) (by kernel_rfl), Lib.run_indexByteString]
  simp only [Result.andThen]
  rw [Oper.upon_value]
  go_wp2
  go_ret
  exact ⟨rfl, rfl⟩
set_option maxHeartbeats 2000000 in
set_option maxRecDepth 100000 in
theorem sIndexW (s : ByteArray) (c : UInt8) (w : World) :
    Calls Tryd.prog 48 #[.string s, .string ⟨#[c]⟩] w fun e w' => e = .returned (.int .i64 (Lib.indexByte s.data.toList c)) ∧ w' = w := by
  go_enter Tryd.func48, Tryd.ntmps48
  go_wp2_with (go_at_call 59; refine (ixByteW _ _ _).mono ?_; rintro e w' ⟨rfl, rfl⟩)
  · have h : ([c] == s.toList) = true := by assumption
    go_ret
    refine ⟨?_, rfl⟩
    have e : s.data.toList = [c] := by rw [← Lib.toList_data]; exact (beq_iff_eq.1 h).symm
    rw [e]
    simp [Lib.indexByte]
  · go_ret
    exact ⟨rfl, rfl⟩
set_option maxHeartbeats 1000000 in
set_option maxRecDepth 100000 in
theorem countW (s : ByteArray) (c : UInt8) (w : World) :
    Calls Tryd.prog 45 #[.string s, .string ⟨#[c]⟩] w fun e w' => e = .returned (.int .i64 (Lib.countByte s.data.toList c)) ∧ w' = w := by
  go_enter Tryd.func45, Tryd.ntmps45
  go_wp2
  rw [run_callFunc_extern Tryd.func58 (by kernel_rfl) (by kernel_rfl) (by kernel_rfl) (e := Extern.BytealgCount.count) (by kernel_rfl), Lib.run_countString]
  simp only [Result.andThen]
  rw [Oper.upon_value]
  go_wp2
  go_ret
  exact ⟨rfl, rfl⟩
theorem Spec.same {P : Program} {f : FuncId} {ps : List VP} {v : Value} (us : List Value) (hp : ps = us.map vlit) (h : ∀ w, Calls P f us.toArray w fun e w' => e = .returned v ∧ w' = w) : Spec P f ps [] (fun r S' => r = vlit v ∧ S' = []) :=
  ⟨fun c vs ha hs => by
    have e : vs = us := by
      subst hp
      clear hs h
      induction us generalizing vs with
      | nil => cases ha; rfl
      | cons u us ih =>
        cases ha with
        | cons h1 h2 => cases h1; rw [ih _ h2]
    subst e
    exact (h c.w).mono fun e w' ⟨he, hw⟩ => by subst hw; exact ⟨_, c.F, vlit v, [], he, .refl c, rfl, hs, rfl, rfl⟩⟩
theorem sIndex_c (l : List UInt8) (c : UInt8) : Spec Tryd.prog 48 [vstr (bs l), vstr (bs [c])] [] (fun r S' => r = vint (Lib.indexByte l c) ∧ S' = []) :=
  Spec.same [.string (bs l), .string (bs [c])] rfl (fun w => sIndexW (bs l) c w)
theorem count_c (l : List UInt8) (c : UInt8) : Spec Tryd.prog 45 [vstr (bs l), vstr (bs [c])] [] (fun r S' => r = vint ((l.count c : Nat) : Int) ∧ S' = []) :=
  Spec.same [.string (bs l), .string (bs [c])] rfl (fun w => countW (bs l) c w)
set_option maxRecDepth 10000 in
theorem index_c (l : List UInt8) (c : UInt8) : Spec Tryd.prog 46 [vstr (bs l), vstr (bs [c])] [] (fun r S' => r = vint (Lib.indexByte l c) ∧ S' = []) := by
  refine Spec.of_run2 (n := 8) Tryd.func46 rfl Tryd.results46 Tryd.ntmps46 rfl ?_
  repeat' (first | (with_reducible first | refine RL.done ?_ | refine RL.app0 ?_ | refine RL.app1 ?_ | refine RL.app2 ?_ | refine RL.app3 ?_ | refine RL.app4 ?_) | (with_reducible refine RL.wanted ?_ ?_; exact rfl) | ((with_reducible show RH _ _ _ ⟨_, .call ⟨.value (.func 48), _, _⟩, _, _, _, _⟩ _ _ _ _); refine RH.cP Tryd.call48 ?_; refine ⟨_, sIndex_c l c, ?_⟩; rintro _ _ ⟨rfl, rfl⟩) | ((with_reducible show RH _ _ _ _ _ _ _ _); first | refine RH.val (hK := ?_) | refine RH.upd (hK := ?_) | (refine RH.lr (h := ?_); intro u)) | (with_reducible first | refine Run.seq ?_ | refine Run.region ?_ | refine Run.block ?_ | refine Run.skip ?_ | refine Run.exit ?_ | refine Run.ret ?_) | (with_reducible show Run _ _ (.cond _ _ _) _ _ _; first | refine Run.condT rfl ?_ | refine Run.condF rfl ?_ | refine Run.condD rfl (fun h => ?_) (fun h => ?_) | refine Run.condND rfl (fun h => ?_) (fun h => ?_) | refine Run.condNB rfl (fun h => ?_) (fun h => ?_) | refine Run.cond rfl (fun h => ?_) (fun h => ?_)) | (with_reducible first | refine seqN (K := Run _ _ _ _) ?_ | refine seqE ?_ | refine seqR ?_ | refine blockN ?_ | refine blockR ?_ | refine blockE ?_) | (with_reducible refine blockX ?_ ?_; exact rfl))
  refine ⟨eA, _, [], resA, .ch .nil, ?_⟩
  exact ⟨rfl, rfl⟩
/-! ### pieces -/
theorem bs_ext {a b : ByteArray} (h : a.data.toList = b.data.toList) : a = b := by rw [← Lib.mk_data a, h, Lib.mk_data b]
theorem bs_cut (l : List UInt8) (i j : Nat) : (bs l).extract i j = bs ((l.drop i).take (j - i)) := bs_ext (by rw [Lib.extract_data]; rfl)
/-- the pieces of a text between separators -/
def splitB (c : UInt8) : List UInt8 → List (List UInt8)
  | [] => [[]]
  | b :: l => if b = c then [] :: splitB c l else match splitB c l with
    | [] => [[b]]
    | p :: ps => (b :: p) :: ps
theorem splitB_none {c : UInt8} : ∀ {l : List UInt8}, l.count c = 0 → splitB c l = [l]
  | [], _ => rfl
  | b :: l, h => by
    rw [List.count_cons] at h
    have h1 : l.count c = 0 := by omega
    have h2 : b ≠ c := fun e => by subst e; simp at h
    rw [splitB, if_neg h2, splitB_none h1]
theorem splitB_len (c : UInt8) : ∀ l : List UInt8, (splitB c l).length = l.count c + 1
  | [] => rfl
  | b :: l => by
    have ih := splitB_len c l
    rw [splitB, List.count_cons]
    by_cases h : b = c
    · rw [if_pos h, List.length_cons, ih]; simp [h]
    · rw [if_neg h]
      have : (b == c) = false := by simpa using h
      rw [this]
      revert ih
      cases splitB c l with
      | nil => simp
      | cons p ps => simp
theorem indexB_some {c : UInt8} : ∀ {l : List UInt8}, 0 < l.count c → ∃ m : Nat, Lib.indexByte l c = m ∧ m < l.length ∧ splitB c l = l.take m :: splitB c (l.drop (m + 1)) ∧ (l.drop (m + 1)).count c + 1 = l.count c
  | [], h => by simp at h
  | b :: l, h => by
    by_cases e : b = c
    · subst e
      exact ⟨0, by simp [Lib.indexByte], by simp, by simp [splitB], by simp⟩
    · have eb : (b == c) = false := by simpa using e
      rw [List.count_cons, eb] at h
      obtain ⟨m, h1, h2, h3, h4⟩ := indexB_some (c := c) (l := l) (by simpa using h)
      refine ⟨m + 1, ?_, by simpa using h2, ?_, ?_⟩
      · rw [Lib.indexByte, eb, h1]
        have : (((m : Nat) : Int) == -1) = false := by simp
        rw [this]
        simp
      · rw [splitB, if_neg e, h3]
        simp
      · rw [List.count_cons, eb]
        simpa using h4
theorem put_str (P : List ByteArray) (i N : Nat) (hP : P.length = i) (hi : i < N) (x : ByteArray) : (P ++ List.replicate (N - i) ByteArray.empty).set i x = (P ++ [x]) ++ List.replicate (N - (i + 1)) ByteArray.empty := by
  have e : N - i = N - (i + 1) + 1 := by omega
  rw [List.set_append_right _ _ (by omega), hP, Nat.sub_self, e, List.replicate_succ, List.set_cons_zero, List.append_assoc]; rfl
abbrev tStr : TR ByteArray := tVal (fun s : ByteArray => .string s) (fun _ => rfl)
end Go.Proofs.YtemfpennomelaaaDoor
