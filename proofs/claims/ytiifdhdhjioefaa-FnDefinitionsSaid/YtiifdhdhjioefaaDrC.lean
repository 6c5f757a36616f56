/- Draws from bytes: (*spec.l1Cur).next, pick, one, among: what they draw lies within bounds. Proved for this program; conditions: bytes of 0 to 255, less than a million draws. -/
import Derived.Test.YtiifdhdhjioefaaCoreZ
import Derived.Test.YtiifdhdhjioefaaTypes
import Derived.Test.YtiifdhdhjioefaaRelW
import Derived.Test.YtiifdhdhjioefaaRelC
import Derived.Test.YtiifdhdhjioefaaPart
namespace Go.Proofs.Ytiifdhdhjioefaa
open Go Go.Proofs
set_option linter.unusedVariables false
theorem emod_le' {x n : Int} (hx : 0 ≤ x) (hn : 0 < n) : x % n ≤ x := by
  have h1 := Int.emod_add_mul_ediv x n
  have h2 := Int.mul_nonneg (Int.le_of_lt hn) (Int.ediv_nonneg hx (Int.le_of_lt hn))
  omega
/-- bytes that are drawn from -/
abbrev Byts (code : List Int) : Prop := (∀ x ∈ code, 0 ≤ x ∧ x ≤ 255) ∧ code.length ≤ 4611686018427387904
abbrev vbytes (code : List Int) : VP := vsl 1 (fun x : Int => [vu8 x]) code
abbrev hcur0 (b : Nat) (code : List Int) (p s : Int) : HP := hcells b [vbytes code, vint p, vlit (.int .u64 s)]
/-- a reader of bytes that has drawn at most m times -/
abbrev hcurx (b : Nat) (code : List Int) (m : Nat) (x : Nat × Int) : HP := hand (x.1 ≤ m) (hcur0 b code (x.1 : Int) x.2)
def hcur (b : Nat) (code : List Int) (m : Nat) : HP := hexs (hcurx b code m)
theorem SEnt.cur {b : Nat} {code : List Int} {m p : Nat} {q s : Int} {S : List HP} (hq : q = (p : Int)) (hp : p ≤ m) : SEnt (hcur0 b code q s :: S) (hcur b code m :: S) := by
  subst hq
  exact (SEnt.hand hp).trans (SEnt.exs (h := hcurx b code m) (p, s))
theorem SEnt.curLe {b : Nat} {code : List Int} {m m' : Nat} {S : List HP} (h : m ≤ m') : SEnt (hcur b code m :: S) (hcur b code m' :: S) := fun c fs hs => by
  obtain ⟨f, gs, rfl, x, hx, h1⟩ := hs.head
  exact ⟨_, hs.turn ⟨x, Nat.le_trans hx h, h1⟩⟩
set_option maxRecDepth 10000 in
set_option maxHeartbeats 4000000 in
theorem next0_c (b : Nat) (code : List Int) (p : Nat) (s : Int) (hc : Byts code) (hp : p ≤ 1000000000) :
    Spec Try.prog 138 [vptr b 0] [hcur0 b code (p : Int) s] (fun r S' => ∃ x s' : Int, r = vint x ∧ S' = [hcur0 b code ((p : Int) + 1) s'] ∧ 0 ≤ x ∧ x ≤ 255) := by
  have hl := hc.2
  rcases Nat.lt_or_ge p code.length with h | h
  · have hb := hc.1 _ (List.getElem_mem h)
    refine Spec.of_run2 (n := 62) Try.func138 rfl Try.results138 Try.ntmps138 rfl ?_
    repeat' (first | (with_reducible refine RL.done ?_) | (with_reducible refine RL.wanted ?_ ?_; exact rfl) | ((with_reducible show Run _ _ (.region 2 _ true) _ _ _); refine Run.regionD (fun i => false) rfl ?_; change RD _ _ _ _ _ _ 10 (dm 10 0) _ _) | ((with_reducible show RD _ _ 2 _ _ _ _ _ _ _); first | ((with_reducible show RD _ _ _ _ _ _ _ (dm 10 0) _ _); refine RD.tk 0 (dm 10 526) (dm 10 1) (hK := ?_)) | ((with_reducible show RD _ _ _ _ _ _ _ (dm 10 1) _ _); refine RD.tk 1 (dm 10 524) (dm 10 3) (hK := ?_)) | ((with_reducible show RD _ _ _ _ _ _ _ (dm 10 3) _ _); refine RD.tk 2 (dm 10 520) (dm 10 7) (hK := ?_)) | ((with_reducible show RD _ _ _ _ _ _ _ (dm 10 7) _ _); refine RD.tk 3 (dm 10 512) (dm 10 15) (hK := ?_)) | ((with_reducible show RD _ _ _ _ _ _ _ (dm 10 15) _ _); refine RD.tk 4 (dm 10 992) (dm 10 31) (hK := ?_)) | ((with_reducible show RD _ _ _ _ _ _ _ (dm 10 31) _ _); refine RD.tk 5 (dm 10 960) (dm 10 63) (hK := ?_)) | ((with_reducible show RD _ _ _ _ _ _ _ (dm 10 63) _ _); refine RD.tk 6 (dm 10 896) (dm 10 127) (hK := ?_)) | ((with_reducible show RD _ _ _ _ _ _ _ (dm 10 127) _ _); refine RD.tk 7 (dm 10 768) (dm 10 255) (hK := ?_)) | ((with_reducible show RD _ _ _ _ _ _ _ (dm 10 255) _ _); refine RD.tk 8 (dm 10 512) (dm 10 511) (hK := ?_)) | ((with_reducible show RD _ _ _ _ _ _ _ (dm 10 511) _ _); refine RD.tk 9 (dm 10 0) (dm 10 1023) (hK := ?_)) | ((with_reducible show RD _ _ _ _ _ _ 0 _ _ _); refine RD.done (by kernel_rfl) ?_)) | ((with_reducible show Run _ _ (.region 3 _ true) _ _ _); refine Run.regionD (fun i => false) rfl ?_; change RD _ _ _ _ _ _ 12 (dm 12 0) _ _) | ((with_reducible show RD _ _ 3 _ _ _ _ _ _ _); first | ((with_reducible show RD _ _ _ _ _ _ _ (dm 12 0) _ _); refine RD.tk 0 (dm 12 3854) (dm 12 1) (hK := ?_)) | ((with_reducible show RD _ _ _ _ _ _ _ (dm 12 1) _ _); refine RD.tk 1 (dm 12 3852) (dm 12 3) (hK := ?_)) | ((with_reducible show RD _ _ _ _ _ _ _ (dm 12 3) _ _); refine RD.tk 2 (dm 12 3848) (dm 12 7) (hK := ?_)) | ((with_reducible show RD _ _ _ _ _ _ _ (dm 12 7) _ _); refine RD.tk 3 (dm 12 3840) (dm 12 15) (hK := ?_)) | ((with_reducible show RD _ _ _ _ _ _ _ (dm 12 15) _ _); refine RD.tk 4 (dm 12 4064) (dm 12 31) (hK := ?_)) | ((with_reducible show RD _ _ _ _ _ _ _ (dm 12 31) _ _); refine RD.tk 5 (dm 12 4032) (dm 12 63) (hK := ?_)) | ((with_reducible show RD _ _ _ _ _ _ _ (dm 12 63) _ _); refine RD.tk 6 (dm 12 3968) (dm 12 127) (hK := ?_)) | ((with_reducible show RD _ _ _ _ _ _ _ (dm 12 127) _ _); refine RD.tk 7 (dm 12 3840) (dm 12 255) (hK := ?_)) | ((with_reducible show RD _ _ _ _ _ _ _ (dm 12 255) _ _); refine RD.tk 8 (dm 12 3584) (dm 12 511) (hK := ?_)) | ((with_reducible show RD _ _ _ _ _ _ _ (dm 12 511) _ _); refine RD.tk 9 (dm 12 3072) (dm 12 1023) (hK := ?_)) | ((with_reducible show RD _ _ _ _ _ _ _ (dm 12 1023) _ _); refine RD.tk 10 (dm 12 2048) (dm 12 2047) (hK := ?_)) | ((with_reducible show RD _ _ _ _ _ _ _ (dm 12 2047) _ _); refine RD.tk 11 (dm 12 0) (dm 12 4095) (hK := ?_)) | ((with_reducible show RD _ _ _ _ _ _ 0 _ _ _); refine RD.done (by kernel_rfl) ?_)) | ((with_reducible show Run _ _ (.region 6 _ true) _ _ _); refine Run.regionD (fun i => false) rfl ?_; change RD _ _ _ _ _ _ 10 (dm 10 0) _ _) | ((with_reducible show RD _ _ 6 _ _ _ _ _ _ _); first | ((with_reducible show RD _ _ _ _ _ _ _ (dm 10 0) _ _); refine RD.tk 0 (dm 10 526) (dm 10 1) (hK := ?_)) | ((with_reducible show RD _ _ _ _ _ _ _ (dm 10 1) _ _); refine RD.tk 1 (dm 10 524) (dm 10 3) (hK := ?_)) | ((with_reducible show RD _ _ _ _ _ _ _ (dm 10 3) _ _); refine RD.tk 2 (dm 10 520) (dm 10 7) (hK := ?_)) | ((with_reducible show RD _ _ _ _ _ _ _ (dm 10 7) _ _); refine RD.tk 3 (dm 10 512) (dm 10 15) (hK := ?_)) | ((with_reducible show RD _ _ _ _ _ _ _ (dm 10 15) _ _); refine RD.tk 4 (dm 10 992) (dm 10 31) (hK := ?_)) | ((with_reducible show RD _ _ _ _ _ _ _ (dm 10 31) _ _); refine RD.tk 5 (dm 10 960) (dm 10 63) (hK := ?_)) | ((with_reducible show RD _ _ _ _ _ _ _ (dm 10 63) _ _); refine RD.tk 6 (dm 10 896) (dm 10 127) (hK := ?_)) | ((with_reducible show RD _ _ _ _ _ _ _ (dm 10 127) _ _); refine RD.tk 7 (dm 10 768) (dm 10 255) (hK := ?_)) | ((with_reducible show RD _ _ _ _ _ _ _ (dm 10 255) _ _); refine RD.tk 8 (dm 10 512) (dm 10 511) (hK := ?_)) | ((with_reducible show RD _ _ _ _ _ _ _ (dm 10 511) _ _); refine RD.tk 9 (dm 10 0) (dm 10 1023) (hK := ?_)) | ((with_reducible show RD _ _ _ _ _ _ 0 _ _ _); refine RD.done (by kernel_rfl) ?_)) | ((with_reducible show RH _ _ _ _ _ _ _ _); first | refine RH.val (hK := ?_) | refine RH.upd (hK := ?_)) | (with_reducible first | refine Run.seq ?_ | refine Run.region ?_ | refine Run.skip ?_ | refine Run.ret ?_) | (with_reducible show Run _ _ (.cond _ _ _) _ _ _; refine Run.condD rfl (fun h => ?_) (fun h => ?_)) | (with_reducible first | refine seqN (K := Run _ _ _ _) ?_ | refine seqR ?_))
    all_goals first
      | (exfalso; omega)
      | (refine ⟨eA, _, [hcur0 b code ((p : Int) + 1) ((((s * 6364136223846793005) % 18446744073709551616 + code[p]) % 18446744073709551616 + 550289) % 18446744073709551616)], resA, ?_, ?_⟩
         · exact SEnt.ch chA
         · exact ⟨_, _, rfl, rfl, by omega, by omega⟩)
      | trace_state
  · refine Spec.of_run2 (n := 62) Try.func138 rfl Try.results138 Try.ntmps138 rfl ?_
    repeat' (first | (with_reducible refine RL.done ?_) | (with_reducible refine RL.wanted ?_ ?_; exact rfl) | ((with_reducible show Run _ _ (.region 2 _ true) _ _ _); refine Run.regionD (fun i => false) rfl ?_; change RD _ _ _ _ _ _ 10 (dm 10 0) _ _) | ((with_reducible show RD _ _ 2 _ _ _ _ _ _ _); first | ((with_reducible show RD _ _ _ _ _ _ _ (dm 10 0) _ _); refine RD.tk 0 (dm 10 526) (dm 10 1) (hK := ?_)) | ((with_reducible show RD _ _ _ _ _ _ _ (dm 10 1) _ _); refine RD.tk 1 (dm 10 524) (dm 10 3) (hK := ?_)) | ((with_reducible show RD _ _ _ _ _ _ _ (dm 10 3) _ _); refine RD.tk 2 (dm 10 520) (dm 10 7) (hK := ?_)) | ((with_reducible show RD _ _ _ _ _ _ _ (dm 10 7) _ _); refine RD.tk 3 (dm 10 512) (dm 10 15) (hK := ?_)) | ((with_reducible show RD _ _ _ _ _ _ _ (dm 10 15) _ _); refine RD.tk 4 (dm 10 992) (dm 10 31) (hK := ?_)) | ((with_reducible show RD _ _ _ _ _ _ _ (dm 10 31) _ _); refine RD.tk 5 (dm 10 960) (dm 10 63) (hK := ?_)) | ((with_reducible show RD _ _ _ _ _ _ _ (dm 10 63) _ _); refine RD.tk 6 (dm 10 896) (dm 10 127) (hK := ?_)) | ((with_reducible show RD _ _ _ _ _ _ _ (dm 10 127) _ _); refine RD.tk 7 (dm 10 768) (dm 10 255) (hK := ?_)) | ((with_reducible show RD _ _ _ _ _ _ _ (dm 10 255) _ _); refine RD.tk 8 (dm 10 512) (dm 10 511) (hK := ?_)) | ((with_reducible show RD _ _ _ _ _ _ _ (dm 10 511) _ _); refine RD.tk 9 (dm 10 0) (dm 10 1023) (hK := ?_)) | ((with_reducible show RD _ _ _ _ _ _ 0 _ _ _); refine RD.done (by kernel_rfl) ?_)) | ((with_reducible show Run _ _ (.region 3 _ true) _ _ _); refine Run.regionD (fun i => false) rfl ?_; change RD _ _ _ _ _ _ 12 (dm 12 0) _ _) | ((with_reducible show RD _ _ 3 _ _ _ _ _ _ _); first | ((with_reducible show RD _ _ _ _ _ _ _ (dm 12 0) _ _); refine RD.tk 0 (dm 12 3854) (dm 12 1) (hK := ?_)) | ((with_reducible show RD _ _ _ _ _ _ _ (dm 12 1) _ _); refine RD.tk 1 (dm 12 3852) (dm 12 3) (hK := ?_)) | ((with_reducible show RD _ _ _ _ _ _ _ (dm 12 3) _ _); refine RD.tk 2 (dm 12 3848) (dm 12 7) (hK := ?_)) | ((with_reducible show RD _ _ _ _ _ _ _ (dm 12 7) _ _); refine RD.tk 3 (dm 12 3840) (dm 12 15) (hK := ?_)) | ((with_reducible show RD _ _ _ _ _ _ _ (dm 12 15) _ _); refine RD.tk 4 (dm 12 4064) (dm 12 31) (hK := ?_)) | ((with_reducible show RD _ _ _ _ _ _ _ (dm 12 31) _ _); refine RD.tk 5 (dm 12 4032) (dm 12 63) (hK := ?_)) | ((with_reducible show RD _ _ _ _ _ _ _ (dm 12 63) _ _); refine RD.tk 6 (dm 12 3968) (dm 12 127) (hK := ?_)) | ((with_reducible show RD _ _ _ _ _ _ _ (dm 12 127) _ _); refine RD.tk 7 (dm 12 3840) (dm 12 255) (hK := ?_)) | ((with_reducible show RD _ _ _ _ _ _ _ (dm 12 255) _ _); refine RD.tk 8 (dm 12 3584) (dm 12 511) (hK := ?_)) | ((with_reducible show RD _ _ _ _ _ _ _ (dm 12 511) _ _); refine RD.tk 9 (dm 12 3072) (dm 12 1023) (hK := ?_)) | ((with_reducible show RD _ _ _ _ _ _ _ (dm 12 1023) _ _); refine RD.tk 10 (dm 12 2048) (dm 12 2047) (hK := ?_)) | ((with_reducible show RD _ _ _ _ _ _ _ (dm 12 2047) _ _); refine RD.tk 11 (dm 12 0) (dm 12 4095) (hK := ?_)) | ((with_reducible show RD _ _ _ _ _ _ 0 _ _ _); refine RD.done (by kernel_rfl) ?_)) | ((with_reducible show Run _ _ (.region 6 _ true) _ _ _); refine Run.regionD (fun i => false) rfl ?_; change RD _ _ _ _ _ _ 10 (dm 10 0) _ _) | ((with_reducible show RD _ _ 6 _ _ _ _ _ _ _); first | ((with_reducible show RD _ _ _ _ _ _ _ (dm 10 0) _ _); refine RD.tk 0 (dm 10 526) (dm 10 1) (hK := ?_)) | ((with_reducible show RD _ _ _ _ _ _ _ (dm 10 1) _ _); refine RD.tk 1 (dm 10 524) (dm 10 3) (hK := ?_)) | ((with_reducible show RD _ _ _ _ _ _ _ (dm 10 3) _ _); refine RD.tk 2 (dm 10 520) (dm 10 7) (hK := ?_)) | ((with_reducible show RD _ _ _ _ _ _ _ (dm 10 7) _ _); refine RD.tk 3 (dm 10 512) (dm 10 15) (hK := ?_)) | ((with_reducible show RD _ _ _ _ _ _ _ (dm 10 15) _ _); refine RD.tk 4 (dm 10 992) (dm 10 31) (hK := ?_)) | ((with_reducible show RD _ _ _ _ _ _ _ (dm 10 31) _ _); refine RD.tk 5 (dm 10 960) (dm 10 63) (hK := ?_)) | ((with_reducible show RD _ _ _ _ _ _ _ (dm 10 63) _ _); refine RD.tk 6 (dm 10 896) (dm 10 127) (hK := ?_)) | ((with_reducible show RD _ _ _ _ _ _ _ (dm 10 127) _ _); refine RD.tk 7 (dm 10 768) (dm 10 255) (hK := ?_)) | ((with_reducible show RD _ _ _ _ _ _ _ (dm 10 255) _ _); refine RD.tk 8 (dm 10 512) (dm 10 511) (hK := ?_)) | ((with_reducible show RD _ _ _ _ _ _ _ (dm 10 511) _ _); refine RD.tk 9 (dm 10 0) (dm 10 1023) (hK := ?_)) | ((with_reducible show RD _ _ _ _ _ _ 0 _ _ _); refine RD.done (by kernel_rfl) ?_)) | ((with_reducible show RH _ _ _ _ _ _ _ _); first | refine RH.val (hK := ?_) | refine RH.upd (hK := ?_)) | (with_reducible first | refine Run.seq ?_ | refine Run.region ?_ | refine Run.skip ?_ | refine Run.ret ?_) | (with_reducible show Run _ _ (.cond _ _ _) _ _ _; refine Run.condD rfl (fun h => ?_) (fun h => ?_)) | (with_reducible first | refine seqN (K := Run _ _ _ _) ?_ | refine seqR ?_))
    all_goals first
      | (exfalso; omega)
      | (refine ⟨eA, _, [hcur0 b code ((p : Int) + 1) ((((s * 6364136223846793005) % 18446744073709551616 + 0) % 18446744073709551616 + 550289) % 18446744073709551616)], resA, ?_, ?_⟩
         · exact SEnt.ch chA
         · exact ⟨_, _, rfl, rfl, by omega, by omega⟩)
      | trace_state
theorem next_c (b : Nat) (code : List Int) (m : Nat) (hc : Byts code) (hm : m ≤ 1000000000) :
    Spec Try.prog 138 [vptr b 0] [hcur b code m] (fun r S' => ∃ x : Int, r = vint x ∧ S' = [hcur b code (m + 1)] ∧ 0 ≤ x ∧ x ≤ 255) := by
  refine Spec.exs fun x => Spec.hand fun hx => ?_
  refine (next0_c b code x.1 x.2 hc (by omega)).post ?_
  rintro r S' ⟨y, s', rfl, rfl, h1, h2⟩
  exact SImp.of (SEnt.cur (p := x.1 + 1) (by omega) (by omega)) ⟨y, rfl, rfl, h1, h2⟩
set_option maxRecDepth 10000 in
set_option maxHeartbeats 4000000 in
theorem pick_c (b : Nat) (code : List Int) (m : Nat) (n : Int) (hc : Byts code) (hm : m ≤ 900000000) :
    Spec Try.prog 81 [vptr b 0, vint n] [hcur b code m] (fun r S' => ∃ x : Int, r = vint x ∧ S' = [hcur b code (m + 2)] ∧ 0 ≤ x ∧ (x = 0 ∨ x < n) ∧ x ≤ 65535) := by
  rcases Int.lt_or_le 1 n with hn | hn
  · rcases Int.lt_or_le 200 n with hn2 | hn2
    · refine Spec.of_run2 (n := 20) Try.func81 rfl Try.results81 Try.ntmps81 rfl ?_
      repeat' (first | (with_reducible refine RL.done ?_) | (with_reducible refine RL.wanted ?_ ?_; exact rfl) | ((with_reducible show RH _ _ _ ⟨_, .call ⟨.value (.func 138), _, _⟩, _, _, _, _⟩ _ _ _ _); refine RH.cW Try.call138 ?_; refine ⟨_, _, _, (by repeat (first | exact Pick.nil | (apply Pick.cons; (with_reducible repeat (first | exact Rem.head | apply Rem.tail))))), next_c b code m hc (by omega), ?_⟩; rintro _ _ ⟨x1, rfl, rfl, hx0, hx1⟩; refine RL.nm ?_) | ((with_reducible show RH _ _ _ ⟨_, .call ⟨.value (.func 138), _, _⟩, _, _, _, _⟩ _ _ _ _); refine RH.cW Try.call138 ?_; refine ⟨_, _, _, (by repeat (first | exact Pick.nil | (apply Pick.cons; (with_reducible repeat (first | exact Rem.head | apply Rem.tail))))), next_c b code (m + 1) hc (by omega), ?_⟩; rintro _ _ ⟨x2, rfl, rfl, hy0, hy1⟩; refine RL.nm ?_) | ((with_reducible show RH _ _ _ _ _ _ _ _); refine RH.val (hK := ?_)) | (with_reducible first | refine Run.seq ?_ | refine Run.region ?_ | refine Run.skip ?_ | refine Run.ret ?_) | (with_reducible show Run _ _ (.cond _ _ _) _ _ _; refine Run.condD rfl (fun h => ?_) (fun h => ?_)) | (with_reducible first | refine seqN (K := Run _ _ _ _) ?_ | refine seqR ?_))
      all_goals first
        | (exfalso; omega)
        | (refine ⟨eA, _, [hcur b code (m + 2)], resA, ?_, ?_⟩
           · exact SEnt.ch chA
           · refine ⟨_, rfl, rfl, ?_, ?_, ?_⟩
             · exact Int.emod_nonneg _ (by omega)
             · exact .inr (Int.emod_lt_of_pos _ (by omega))
             · have := emod_le' (x := x1 * 256 + x2) (n := n) (by omega) (by omega)
               omega)
        | trace_state
    · refine Spec.of_run2 (n := 20) Try.func81 rfl Try.results81 Try.ntmps81 rfl ?_
      repeat' (first | (with_reducible refine RL.done ?_) | (with_reducible refine RL.wanted ?_ ?_; exact rfl) | ((with_reducible show RH _ _ _ ⟨_, .call ⟨.value (.func 138), _, _⟩, _, _, _, _⟩ _ _ _ _); refine RH.cW Try.call138 ?_; refine ⟨_, _, _, (by repeat (first | exact Pick.nil | (apply Pick.cons; (with_reducible repeat (first | exact Rem.head | apply Rem.tail))))), next_c b code m hc (by omega), ?_⟩; rintro _ _ ⟨x1, rfl, rfl, hx0, hx1⟩; refine RL.nm ?_) | ((with_reducible show RH _ _ _ _ _ _ _ _); refine RH.val (hK := ?_)) | (with_reducible first | refine Run.seq ?_ | refine Run.region ?_ | refine Run.skip ?_ | refine Run.ret ?_) | (with_reducible show Run _ _ (.cond _ _ _) _ _ _; refine Run.condD rfl (fun h => ?_) (fun h => ?_)) | (with_reducible first | refine seqN (K := Run _ _ _ _) ?_ | refine seqR ?_))
      all_goals first
        | (exfalso; omega)
        | (refine ⟨eA, _, [hcur b code (m + 2)], resA, ?_, ?_⟩
           · exact (SEnt.ch (T := [hcur b code (m + 1)]) chA).trans (SEnt.curLe (by omega))
           · refine ⟨_, rfl, rfl, ?_, ?_, ?_⟩
             · exact Int.emod_nonneg _ (by omega)
             · exact .inr (Int.emod_lt_of_pos _ (by omega))
             · have := Int.emod_lt_of_pos x1 (show (0 : Int) < n by omega)
               omega)
        | trace_state
  · refine Spec.of_run2 (n := 20) Try.func81 rfl Try.results81 Try.ntmps81 rfl ?_
    repeat' (first | (with_reducible refine RL.done ?_) | (with_reducible refine RL.wanted ?_ ?_; exact rfl) | ((with_reducible show RH _ _ _ _ _ _ _ _); refine RH.val (hK := ?_)) | (with_reducible first | refine Run.seq ?_ | refine Run.region ?_ | refine Run.skip ?_ | refine Run.ret ?_) | (with_reducible show Run _ _ (.cond _ _ _) _ _ _; refine Run.condD rfl (fun h => ?_) (fun h => ?_)) | (with_reducible first | refine seqN (K := Run _ _ _ _) ?_ | refine seqR ?_))
    all_goals first
      | (exfalso; omega)
      | (refine ⟨eA, _, [hcur b code (m + 2)], resA, ?_, ?_⟩
         · exact (SEnt.ch (T := [hcur b code m]) chA).trans (SEnt.curLe (by omega))
         · exact ⟨0, rfl, rfl, by omega, .inl rfl, by omega⟩)
      | trace_state
set_option maxRecDepth 10000 in
theorem one_c (b : Nat) (code : List Int) (m : Nat) (n : Int) (hc : Byts code) (hm : m ≤ 900000000) :
    Spec Try.prog 74 [vptr b 0, vint n] [hcur b code m] (fun r S' => ∃ o : Bool, r = vbool o ∧ S' = [hcur b code (m + 2)]) := by
  refine Spec.of_run2 (n := 9) Try.func74 rfl Try.results74 Try.ntmps74 rfl ?_
  repeat' (first | (with_reducible refine RL.done ?_) | (with_reducible refine RL.wanted ?_ ?_; exact rfl) | ((with_reducible show RH _ _ _ ⟨_, .call ⟨.value (.func 81), _, _⟩, _, _, _, _⟩ _ _ _ _); refine RH.cW Try.call81 ?_; refine ⟨_, _, _, (by repeat (first | exact Pick.nil | (apply Pick.cons; (with_reducible repeat (first | exact Rem.head | apply Rem.tail))))), pick_c b code m n hc hm, ?_⟩; rintro _ _ ⟨x1, rfl, rfl, hx0, hx1, hx2⟩; refine RL.nm ?_) | ((with_reducible show RH _ _ _ _ _ _ _ _); refine RH.val (hK := ?_)) | (with_reducible first | refine Run.seq ?_ | refine Run.region ?_ | refine Run.ret ?_) | (with_reducible refine seqN (K := Run _ _ _ _) ?_))
  all_goals first
    | (refine ⟨eA, _, [hcur b code (m + 2)], resA, ?_, ?_⟩
       · exact SEnt.ch chA
       · exact ⟨_, rfl, rfl⟩)
    | trace_state
set_option maxRecDepth 10000 in
theorem among_c (b : Nat) (code : List Int) (m : Nat) (l : List Int) (hc : Byts code) (hm : m ≤ 900000000) (hl : 0 < l.length) :
    Spec Try.prog 66 [vptr b 0, vsl 1 (fun x : Int => [vint x]) l] [hcur b code m] (fun r S' => ∃ x : Int, r = vint x ∧ S' = [hcur b code (m + 2)] ∧ x ∈ l) := by
  refine Spec.of_run2 (n := 12) Try.func66 rfl Try.results66 Try.ntmps66 rfl ?_
  repeat' (first | (with_reducible refine RL.done ?_) | (with_reducible refine RL.wanted ?_ ?_; exact rfl) | ((with_reducible show RH _ _ _ ⟨_, .call ⟨.value (.func 81), _, _⟩, _, _, _, _⟩ _ _ _ _); refine RH.cW Try.call81 ?_; refine ⟨_, _, _, (by repeat (first | exact Pick.nil | (apply Pick.cons; (with_reducible repeat (first | exact Rem.head | apply Rem.tail))))), pick_c b code m (l.length : Int) hc hm, ?_⟩; rintro _ _ ⟨x1, rfl, rfl, hx0, hx1, hx2⟩; refine RL.nm ?_) | ((with_reducible show RH _ _ _ _ _ _ _ _); refine RH.val (hK := ?_)) | (with_reducible first | refine Run.seq ?_ | refine Run.region ?_ | refine Run.ret ?_) | (with_reducible refine seqN (K := Run _ _ _ _) ?_))
  all_goals first
    | (refine ⟨eA, _, [hcur b code (m + 2)], resA, ?_, ?_⟩
       · exact SEnt.ch chA
       · exact ⟨_, rfl, rfl, List.getElem_mem _⟩)
    | trace_state
set_option maxRecDepth 10000 in
theorem amongO_c (b : Nat) (code : List Int) (m bl k : Nat) (l : List Int) (hc : Byts code) (hm : m ≤ 900000000) (hk : l.length = k) (hl : 0 < k) :
    Spec Try.prog 66 [vptr b 0, vsb bl k k] [hcur b code m, harr bl 1 (fun x : Int => [vint x]) l (k * 1)] (fun r S' => ∃ x : Int, r = vint x ∧ S' = [hcur b code (m + 2)] ∧ x ∈ l) := by
  subst hk
  refine Spec.of_run2 (n := 12) Try.func66 rfl Try.results66 Try.ntmps66 rfl ?_
  repeat' (first | (with_reducible refine RL.done ?_) | (with_reducible refine RL.wanted ?_ ?_; exact rfl) | ((with_reducible show RH _ _ _ ⟨_, .call ⟨.value (.func 81), _, _⟩, _, _, _, _⟩ _ _ _ _); refine RH.cW Try.call81 ?_; refine ⟨_, _, _, (by repeat (first | exact Pick.nil | (apply Pick.cons; (with_reducible repeat (first | exact Rem.head | apply Rem.tail))))), pick_c b code m (l.length : Int) hc hm, ?_⟩; rintro _ _ ⟨x1, rfl, rfl, hx0, hx1, hx2⟩; refine RL.nm ?_) | ((with_reducible show RH _ _ _ _ _ _ _ _); refine RH.val (hK := ?_)) | (with_reducible first | refine Run.seq ?_ | refine Run.region ?_ | refine Run.ret ?_) | (with_reducible refine seqN (K := Run _ _ _ _) ?_))
  all_goals first
    | (refine ⟨eA, _, [hcur b code (m + 2)], resA, ?_, ?_⟩
       · exact SEnt.ch chA
       · exact ⟨_, rfl, rfl, List.getElem_mem _⟩)
    | trace_state
end Go.Proofs.Ytiifdhdhjioefaa

/- Draws of relations: (*spec.l1Cur).size13, partition13, relation. Proved for this program; conditions: bytes of 0 to 255, less than a million draws. -/
namespace Go.Proofs.Ytiifdhdhjioefaa
open Go Go.Proofs
set_option linter.unusedVariables false
set_option maxRecDepth 10000 in
theorem size13_c (b : Nat) (code : List Int) (m : Nat) (hc : Byts code) (hm : m ≤ 800000000) :
    Spec Try.prog 64 [vptr b 0] [hcur b code m] (fun r S' => ∃ n : Int, r = vint n ∧ S' = [hcur b code (m + 4)] ∧ 0 ≤ n ∧ n ≤ 9) := by
  refine Spec.of_run2 (n := 11) Try.func64 rfl Try.results64 Try.ntmps64 rfl ?_
  repeat' (first | (with_reducible refine RL.done ?_) | (with_reducible refine RL.wanted ?_ ?_; exact rfl) | ((with_reducible show RH _ _ _ ⟨some 4, .buildSlice _ _ _, _, _, _, _⟩ _ _ _ _); refine RH.eff rfl rfl (EOpS.e (EOpS.slit (fun x : Int => [vint x]) _ (fun _ _ => rfl) (by repeat (first | exact Elts.nil | (apply Elts.cons; exact rfl; exact CellsOf.one))) rfl rfl)) ?_; rintro _ _ ⟨b4, rfl, rfl⟩; refine RL.frzA rfl ?_) | ((with_reducible show RH _ _ _ ⟨_, .call ⟨.value (.func 81), _, _⟩, _, _, _, _⟩ _ _ _ _); refine RH.cW Try.call81 ?_; refine ⟨_, _, _, (by repeat (first | exact Pick.nil | (apply Pick.cons; (with_reducible repeat (first | exact Rem.head | apply Rem.tail))))), pick_c b code m 24 hc (by omega), ?_⟩; rintro _ _ ⟨x1, rfl, rfl, hx0, hx1, hx2⟩; refine RL.nm ?_) | ((with_reducible show RH _ _ _ ⟨_, .call ⟨.value (.func 66), _, _⟩, _, _, _, _⟩ _ _ _ _); refine RH.cW Try.call66 ?_; refine ⟨_, _, _, (by repeat (first | exact Pick.nil | (apply Pick.cons; (with_reducible repeat (first | exact Rem.head | apply Rem.tail))))), among_c b code (m + 2) _ hc (by omega) (by rw [List.length_take]; simp only [List.length_cons, List.length_nil]; omega), ?_⟩; rintro _ _ ⟨n, rfl, rfl, hn⟩; refine RL.nm ?_) | ((with_reducible show RH _ _ _ _ _ _ _ _); refine RH.val (hK := ?_)) | (with_reducible first | refine Run.seq ?_ | refine Run.region ?_ | refine Run.ret ?_) | (with_reducible refine seqN (K := Run _ _ _ _) ?_))
  all_goals first
    | (have h9 := List.mem_of_mem_take hn
       simp only [List.mem_cons, List.not_mem_nil, or_false] at h9
       refine ⟨eA, _, [hcur b code (m + 4)], resA, ?_, ?_⟩
       · exact SEnt.ch chA
       · exact ⟨n, rfl, rfl, by omega, by omega⟩)
    | trace_state
set_option maxRecDepth 10000 in
set_option maxHeartbeats 2000000 in
theorem partition13_c (b : Nat) (code : List Int) (m N : Nat) (hc : Byts code) (hm : m ≤ 800000000) (hN : N ≤ 1000) :
    Spec Try.prog 133 [vptr b 0, vint (N : Int)] [hcur b code m] (fun r S' => ∃ (s : Sv) (p : List Int), r = vlit (vsv s) ∧ S' = [hsl tInt (vsv s) p, hcur b code (m + 2 * N)] ∧ p.length = N) := by
  refine Spec.of_run2 (n := 30) Try.func133 rfl Try.results133 Try.ntmps133 rfl ?_
  repeat' (first | (with_reducible refine RL.done ?_) | (with_reducible refine RL.wanted ?_ ?_; exact rfl) | ((with_reducible show RH _ _ _ ⟨some 8, .buildSlice _ _ _, _, _, _, _⟩ _ _ _ _); refine RH.eff rfl rfl (EOpS.e (EOpS.slit (fun x : Int => [vint x]) _ (fun _ _ => rfl) (by repeat (first | exact Elts.nil | (apply Elts.cons; exact rfl; exact CellsOf.one))) rfl rfl)) ?_; rintro _ _ ⟨b8, rfl, rfl⟩) | ((with_reducible show RH _ _ _ _ _ _ _ _); refine RH.val (hK := ?_)) | (with_reducible first | refine Run.seq ?_ | refine Run.region ?_ | refine Run.block ?_) | (with_reducible refine seqN (K := Run _ _ _ _) ?_))
  refine Run.sent (T := [hsl tInt (vsv (some ⟨b8, 0, none⟩, 0, 0)) [], hcur b code m]) (SEnt.packNil tInt rfl) ?_
  refine Run.loop (α := Nat × Sv × List Int) (fun x => [(0, vptr b 0), (1, vint (N : Int)), (5, vlit (vsv x.2.1)), (6, vint (x.1 : Int))]) (fun x => [hsl tInt (vsv x.2.1) x.2.2, hcur b code (m + 2 * x.1)]) (fun x => x.1 ≤ N ∧ x.2.2.length = x.1) (fun x => N - x.1) (0, (some ⟨b8, 0, none⟩, 0, 0), []) ⟨Nat.zero_le _, rfl⟩ (Ent.of slA .refl) ?_
  rintro ⟨q, s, p⟩ ⟨hq, hp⟩
  dsimp only at hq hp ⊢
  rcases Nat.lt_or_eq_of_le hq with h9 | h9
  · repeat' (first | (with_reducible refine RL.done ?_) | (with_reducible refine RL.wanted ?_ ?_; exact rfl) | ((with_reducible show RH _ _ _ ⟨some 27, .buildSlice _ _ _, _, _, _, _⟩ _ _ _ _); refine RH.eff rfl rfl (EOpS.e (EOpS.slit (fun x : Int => [vint x]) _ (fun _ _ => rfl) (by repeat (first | exact Elts.nil | (apply Elts.cons; exact rfl; exact CellsOf.one))) rfl rfl)) ?_; rintro _ _ ⟨b27, rfl, rfl⟩) | ((with_reducible show RH _ _ _ ⟨_, .call ⟨.value (.func 81), _, _⟩, _, _, _, _⟩ _ _ _ _); refine RH.cW Try.call81 ?_; refine ⟨_, _, _, (by repeat (first | exact Pick.nil | (apply Pick.cons; (with_reducible repeat (first | exact Rem.head | apply Rem.tail))))), pick_c b code (m + 2 * q) ((q : Int) + 1) hc (by omega), ?_⟩; rintro _ _ ⟨y, rfl, rfl, hy0, hy1, hy2⟩; refine RL.nm ?_) | ((with_reducible show RH _ _ _ ⟨_, .call ⟨.builtin .append, _, _⟩, _, _, _, _⟩ _ _ _ _); (refine RH.appI rfl rfl rfl (by repeat (first | exact Pick.nil | (apply Pick.cons; (with_reducible repeat (first | exact Rem.head | apply Rem.tail))))) (by first | omega | (simp; omega)) (by first | omega | (simp; omega)) ?_); rintro _ _ ⟨s, rfl, rfl⟩) | ((with_reducible show RH _ _ _ _ _ _ _ _); refine RH.val (hK := ?_)) | (with_reducible first | refine Run.seq ?_ | refine Run.region ?_ | refine Run.block ?_ | refine Run.skip ?_ | refine Run.exit ?_ | refine Run.ret ?_) | (with_reducible show Run _ _ (.cond _ _ _) _ _ _; refine Run.condD rfl (fun h => ?_) (fun h => ?_)) | (with_reducible first | refine seqN (K := Run _ _ _ _) ?_ | refine seqE ?_ | refine blockN ?_ | refine blockE ?_))
    all_goals first
      | (exfalso; omega)
      | (with_reducible refine seqN ?_
         exact ⟨(q + 1, _, p ++ [_]), ⟨by dsimp only; omega, by dsimp only; rw [List.length_append, hp]; rfl⟩, by dsimp only; omega, Ent.of (by dsimp only; exact slA) (by dsimp only; rw [show m + 2 * (q + 1) = m + 2 * q + 2 by omega]; exact chA)⟩)
      | trace_state
  · subst h9
    repeat' (first | (with_reducible refine RL.done ?_) | (with_reducible refine RL.wanted ?_ ?_; exact rfl) | ((with_reducible show RH _ _ _ _ _ _ _ _); refine RH.val (hK := ?_)) | (with_reducible first | refine Run.seq ?_ | refine Run.region ?_ | refine Run.block ?_ | refine Run.skip ?_ | refine Run.exit ?_ | refine Run.ret ?_) | (with_reducible show Run _ _ (.cond _ _ _) _ _ _; refine Run.condD rfl (fun h => ?_) (fun h => ?_)) | (with_reducible first | refine seqN (K := Run _ _ _ _) ?_ | refine seqE ?_ | refine blockE ?_))
    all_goals first
      | (exfalso; omega)
      | (refine ⟨eA, _, [hsl tInt (vsv s) p, hcur b code (m + 2 * q)], resA, ?_, ?_⟩
         · exact SEnt.ch chA
         · exact ⟨s, p, rfl, rfl, hp⟩)
      | trace_state
end Go.Proofs.Ytiifdhdhjioefaa

/- Draws of relations: (*spec.l1Cur).relation. Proved for this program; conditions: bytes of 0 to 255, less than a million draws. -/
namespace Go.Proofs.Ytiifdhdhjioefaa
open Go Go.Proofs
set_option linter.unusedVariables false
/-- what is known of a value in memory makes a reading say more -/
def Upg (v : Value) (q p p' : VP) : Prop := ∀ c u, q.p c v → p.p c u → p'.p c u
inductive Upgs (v : Value) (q : VP) : List VP → List VP → Prop
  | nil : Upgs v q [] []
  | cons {p p' : VP} {ps ps' : List VP} : Upg v q p p' → Upgs v q ps ps' → Upgs v q (p :: ps) (p' :: ps')
theorem Upgs.vps {v : Value} {q : VP} {ps ps' : List VP} (h : Upgs v q ps ps') {c : Ctx} (hq : q.p c v) : ∀ {us : List Value}, VPs c ps us → VPs c ps' us := by
  induction h with
  | nil => intro us hu; exact hu
  | cons h1 _ ih => intro us hu; cases hu with | cons k1 k2 => exact .cons (h1 c _ hq k1) (ih k2)
theorem Upg.keep {v : Value} {q p : VP} : Upg v q p p := fun _ _ _ h => h
theorem Upg.hit {v : Value} {q : VP} : Upg v q (vlit v) q := fun _ _ hq h => by cases h; exact hq
theorem Upg.agg {v : Value} {q : VP} {ps ps' : List VP} (h : Upgs v q ps ps') : Upg v q (vagg ps) (vagg ps') := fun _ _ hq ⟨us, e, hu⟩ => ⟨us, e, h.vps hq hu⟩
theorem Upg.tup {v : Value} {q : VP} {ps ps' : List VP} (h : Upgs v q ps ps') : Upg v q (vtup ps) (vtup ps') := fun _ _ hq ⟨us, e, hu⟩ => ⟨us, e, h.vps hq hu⟩
/-- a list that a result holds is frozen at the end of a call -/
theorem Spec.frzUp {P : Program} {f : FuncId} {args : List VP} {S : List HP} {R R' : VP → List HP → Prop} (hv : Spec P f args S R)
    (h : ∀ q S', R q S' → ∃ (α : Type) (t : TR α) (r : α → List VP) (_ : Frz t r) (v : Value) (xs : List α) (S1 : List HP) (q' : VP), Rem S' (hsl t v xs) S1 ∧ Upg v (vsl t.k r xs) q q' ∧ R' q' S1) : Spec P f args S R' :=
  ⟨fun c vs ha hs => (hv.run c vs ha hs).mono fun e w' ⟨v, F', q, S', h1, h2, h3, h4, h5⟩ => by
    obtain ⟨α, t, r, hfz, v2, xs, S1, q', hr, hu, h6⟩ := h q S' h5
    obtain ⟨F2, k1, _, k2⟩ := (Ent.frzKn (φ := []) (r := r) hr) ⟨F', c.U, w'⟩ 0 { tmps := #[], defers := [] } ⟨rfl, rfl, fun t p h => by cases h⟩ h4
    obtain ⟨fs, k3⟩ := k2
    obtain ⟨f1, gs, rfl, k4⟩ := k3.head
    exact ⟨v, F2, q', S1, h1, h2.trans k1, hu _ _ k4.2 (q.mono k1.v h3), SEnt.drop _ _ k3, h6⟩⟩
theorem putL_len (l : List (List Int)) (t : List Int) : (putL l t).length ≤ l.length + 1 := by
  rw [putL]
  split
  · omega
  · rw [List.length_append, List.length_cons, List.length_take, List.length_drop]; omega
abbrev RelDr (a : Int) (r : VP) (S' : List HP) (b : Nat) (code : List Int) (m : Nat) : Prop :=
  ∃ (a' : Int) (s : Sv) (T : List (List Int)), r = vagg [vint a', vlit (vsv s)] ∧ S' = [hsl (tS tInt) (vsv s) T, hcur b code m] ∧ T.length ≤ 600 ∧ (∀ t ∈ T, t.length ≤ 3) ∧ (a' = a ∨ (-1 ≤ a' ∧ a' ≤ 4))
set_option maxRecDepth 10000 in
set_option maxHeartbeats 8000000 in
theorem relation_c (b : Nat) (code : List Int) (m : Nat) (n a : Int) (hc : Byts code) (hm : m ≤ 700000000) :
    Spec Try.prog 65 [vptr b 0, vint n, vint a] [hcur b code m] (fun r S' => RelDr a r S' b code (m + 200)) := by
  by_cases hok : (1 ≤ n ∧ n ≤ 8) ∧ 1 ≤ a ∧ a ≤ 3
  · obtain ⟨⟨hn1, hn8⟩, ha1, ha3⟩ := hok
    obtain ⟨N, rfl⟩ : ∃ N : Nat, n = N := ⟨n.toNat, by omega⟩
    obtain ⟨K, rfl⟩ : ∃ K : Nat, a = K := ⟨a.toNat, by omega⟩
    refine Spec.of_run2 (n := 94) Try.func65 rfl Try.results65 Try.ntmps65 rfl ?_
    repeat' (first | (with_reducible first | refine RL.done ?_ | refine RL.app0 ?_) | (with_reducible refine RL.wanted ?_ ?_; exact rfl) | ((with_reducible show RH _ _ _ ⟨some 6, .alloc _, _, _, _, _⟩ _ _ _ _); refine RH.alloc rfl ?_; rintro _ _ ⟨b6, rfl, rfl⟩) | ((with_reducible show RH _ _ _ ⟨some 12, .buildSlice _ _ _, _, _, _, _⟩ _ _ _ _); (refine RH.eff rfl rfl (EOpS.e (EOpS.slitV (by ((repeat (first | exact Elts.nil | apply Elts.one1 rfl | apply Elts.agg2 rfl)); done)) (by simp) rfl rfl)) ?_; rintro _ _ ⟨b12, rfl, rfl⟩)) | ((with_reducible show RH _ _ _ ⟨some 7, .alloc _, _, _, _, _⟩ _ _ _ _); refine RH.alloc rfl ?_; rintro _ _ ⟨b7, rfl, rfl⟩) | ((with_reducible show RH _ _ _ ⟨some 24, .buildSlice _ _ _, _, _, _, _⟩ _ _ _ _); refine RH.eff rfl rfl (EOpS.e (EOpS.slit (fun x : Int => [vint x]) _ (fun _ _ => rfl) (by repeat (first | exact Elts.nil | (apply Elts.cons; exact rfl; exact CellsOf.one))) rfl rfl)) ?_; rintro _ _ ⟨b24, rfl, rfl⟩) | ((with_reducible show RH _ _ _ ⟨_, .call ⟨.value (.func 88), _, _⟩, _, _, _, _⟩ _ _ _ _); refine RH.cP Try.call88 ?_; refine ⟨_, l6Size_c _, ?_⟩; rintro _ _ ⟨rfl, rfl⟩) | ((with_reducible show RH _ _ _ ⟨_, .call ⟨.value (.func 85), _, _⟩, _, _, _, _⟩ _ _ _ _); refine RH.cP Try.call85 ?_; refine ⟨_, l1In_c _ _ _, ?_⟩; rintro _ _ ⟨rfl, rfl⟩) | ((with_reducible show RH _ _ _ ⟨_, .call ⟨.value (.func 66), _, _⟩, _, _, _, _⟩ _ _ _ _); refine RH.cW Try.call66 ?_; refine ⟨_, _, _, (by repeat (first | exact Pick.nil | (apply Pick.cons; (with_reducible repeat (first | exact Rem.head | apply Rem.tail))))), amongO_c b code m _ _ _ hc (by omega) (by first | rfl | simp) (by decide), ?_⟩; rintro _ _ ⟨k0, rfl, rfl, hk0⟩; refine RL.nm ?_) | ((with_reducible show RH _ _ _ _ _ _ _ _); first | refine RH.val (hK := ?_) | refine RH.upd (hK := ?_)) | (with_reducible show RL _ _ _ (_ :: _) _ _ _; first | refine RL.guardYes rfl rfl rfl rfl ?_ | refine RL.guardNoS rfl rfl rfl rfl rfl rfl ?_ | refine RL.splitND rfl rfl rfl (fun h => ?_) (fun h => ?_)) | (with_reducible first | refine Run.seq ?_ | refine Run.region ?_ | refine Run.block ?_ | refine Run.skip ?_ | refine Run.ret ?_) | (with_reducible show Run _ _ (.cond _ _ _) _ _ _; first | refine Run.condT rfl ?_ | refine Run.condND rfl (fun h => ?_) (fun h => ?_)) | (with_reducible first | refine seqN (K := Run _ _ _ _) ?_ | refine seqR ?_))
    all_goals first
      | (exfalso; omega)
      | trace_state
    simp only [List.mem_cons, List.not_mem_nil, or_false] at hk0
    obtain ⟨k, rfl⟩ : ∃ k : Nat, k0 = k := ⟨k0.toNat, by omega⟩
    have hk9 : k ≤ 9 := by omega
    refine Run.sent (T := [hsl (tS tInt) (vsv (some ⟨b12, 0, none⟩, 0, 0)) [], hcells b7 [vint (K : Int), vsb b12 0 0], hcells b6 [vint 0, vlit (.slice none 0 0)], hcur b code (m + 2)]) ((SEnt.pick (B := [harr b12 1 (List.map vlit) [] (0 * 1)]) (by repeat (first | exact Pick.nil | (apply Pick.cons; (repeat (first | exact Rem.head | apply Rem.tail)))))).trans ((SEnt.packNil (tS tInt) rfl).trans (SEnt.ch (by repeat (first | exact Ch.nil | refine Ch.same (by repeat (first | exact Rem.head | apply Rem.tail)) ?_))))) ?_
    refine Run.loop (α := Nat × Sv × List (List Int) × Nat) (fun x => [(0, vptr b 0), (1, vint (N : Int)), (2, vint (K : Int)), (6, vptr b6 0), (7, vptr b7 0), (8, vint (x.1 : Int))])
      (fun x => [hsl (tS tInt) (vsv x.2.1) x.2.2.1, hcells b7 [vint (K : Int), vlit (vsv x.2.1)], hcells b6 [vint 0, vlit (.slice none 0 0)], hcur b code x.2.2.2])
      (fun x => x.1 ≤ 9 ∧ Str x.2.2.1 ∧ (∀ u ∈ x.2.2.1, u.length = K) ∧ x.2.2.1.length + x.1 ≤ 9 ∧ x.2.2.2 + 6 * x.1 ≤ m + 60) (fun x => x.1) (k, (some ⟨b12, 0, none⟩, 0, 0), [], m + 2) ⟨hk9, List.Pairwise.nil, (fun u hu => by cases hu), by simpa using hk9, by dsimp only; omega⟩ (Ent.of slA .refl) ?_
    rintro ⟨k, s, T, mm⟩ ⟨hk9, hS, hL, hT, hmm⟩
    dsimp only at hk9 hS hL hT hmm ⊢
    by_cases hk : 0 < k
    · repeat' (first | (with_reducible refine RL.done ?_) | (with_reducible refine RL.wanted ?_ ?_; exact rfl) | ((with_reducible show RH _ _ _ ⟨some 30, .buildSlice _ _ _, _, _, _, _⟩ _ _ _ _); refine RH.eff rfl rfl (EOpS.e (EOpS.slit (fun x : Int => [vint x]) _ (fun _ _ => rfl) (by repeat (first | exact Elts.nil | (apply Elts.cons; exact rfl; exact CellsOf.one))) rfl rfl)) ?_; rintro _ _ ⟨b30, rfl, rfl⟩) | ((with_reducible show RH _ _ _ _ _ _ _ _); refine RH.val (hK := ?_)) | (with_reducible show RL _ _ _ (_ :: _) _ _ _; first | refine RL.guardYes rfl rfl rfl rfl ?_ | refine RL.guardNoS rfl rfl rfl rfl rfl rfl ?_ | refine RL.splitD rfl rfl rfl (fun h => ?_) (fun h => ?_)) | (with_reducible first | refine Run.seq ?_ | refine Run.region ?_ | refine Run.block ?_ | refine Run.skip ?_ | refine Run.exit ?_) | (with_reducible show Run _ _ (.cond _ _ _) _ _ _; first | refine Run.condF rfl ?_ | refine Run.condD rfl (fun h => ?_) (fun h => ?_)) | (with_reducible first | refine seqN (K := Run _ _ _ _) ?_ | refine seqE ?_ | refine blockE ?_))
      all_goals first
        | (exfalso; omega)
        | skip
      refine Run.sent (T := [hsl tInt (vsv (some ⟨b30, 0, none⟩, 0, 0)) [], hsl (tS tInt) (vsv s) T, hcells b7 [vint (K : Int), vlit (vsv s)], hcells b6 [vint 0, vlit (.slice none 0 0)], hcur b code mm]) (SEnt.packNil tInt rfl) ?_
      refine Run.loop (α := Nat × Sv × List Int) (fun x => [(0, vptr b 0), (1, vint (N : Int)), (2, vint (K : Int)), (6, vptr b6 0), (7, vptr b7 0), (8, vint (k : Int)), (9, vlit (vsv x.2.1)), (10, vint (x.1 : Int))])
        (fun x => [hsl tInt (vsv x.2.1) x.2.2, hsl (tS tInt) (vsv s) T, hcells b7 [vint (K : Int), vlit (vsv s)], hcells b6 [vint 0, vlit (.slice none 0 0)], hcur b code (mm + 2 * x.1)])
        (fun x => x.1 ≤ K ∧ x.2.2.length = x.1) (fun x => K - x.1) (0, (some ⟨b30, 0, none⟩, 0, 0), []) ⟨Nat.zero_le _, rfl⟩ (Ent.of slA .refl) ?_
      rintro ⟨i, w, t⟩ ⟨hi, ht⟩
      dsimp only at hi ht ⊢
      rcases Nat.lt_or_eq_of_le hi with hi9 | hi9
      · repeat' (first | (with_reducible refine RL.done ?_) | (with_reducible refine RL.wanted ?_ ?_; exact rfl) | ((with_reducible show RH _ _ _ ⟨some 40, .buildSlice _ _ _, _, _, _, _⟩ _ _ _ _); refine RH.eff rfl rfl (EOpS.e (EOpS.slit (fun x : Int => [vint x]) _ (fun _ _ => rfl) (by repeat (first | exact Elts.nil | (apply Elts.cons; exact rfl; exact CellsOf.one))) rfl rfl)) ?_; rintro _ _ ⟨b40, rfl, rfl⟩) | ((with_reducible show RH _ _ _ ⟨_, .call ⟨.value (.func 81), _, _⟩, _, _, _, _⟩ _ _ _ _); refine RH.cW Try.call81 ?_; refine ⟨_, _, _, (by repeat (first | exact Pick.nil | (apply Pick.cons; (with_reducible repeat (first | exact Rem.head | apply Rem.tail))))), pick_c b code (mm + 2 * i) (N : Int) hc (by omega), ?_⟩; rintro _ _ ⟨y, rfl, rfl, hy0, hy1, hy2⟩; refine RL.nm ?_) | ((with_reducible show RH _ _ _ ⟨_, .call ⟨.builtin .append, _, _⟩, _, _, _, _⟩ _ _ _ _); (refine RH.appI rfl rfl rfl (by repeat (first | exact Pick.nil | (apply Pick.cons; (with_reducible repeat (first | exact Rem.head | apply Rem.tail))))) (by first | omega | (simp; omega)) (by first | omega | (simp; omega)) ?_); rintro _ _ ⟨s, rfl, rfl⟩) | ((with_reducible show RH _ _ _ _ _ _ _ _); refine RH.val (hK := ?_)) | (with_reducible first | refine Run.seq ?_ | refine Run.region ?_ | refine Run.block ?_ | refine Run.skip ?_ | refine Run.exit ?_) | (with_reducible show Run _ _ (.cond _ _ _) _ _ _; refine Run.condD rfl (fun h => ?_) (fun h => ?_)) | (with_reducible first | refine seqN (K := Run _ _ _ _) ?_ | refine seqE ?_ | refine blockN ?_ | refine blockE ?_))
        all_goals first
          | (exfalso; omega)
          | (with_reducible refine seqN ?_
             exact ⟨(i + 1, _, t ++ [_]), ⟨by dsimp only; omega, by dsimp only; rw [List.length_append, ht]; rfl⟩, by dsimp only; omega, Ent.of (by dsimp only; exact slA) (by dsimp only; rw [show mm + 2 * (i + 1) = mm + 2 * i + 2 by omega]; exact chA)⟩)
          | trace_state
      · have htK : t.length = K := ht.trans hi9
        repeat' (first | (with_reducible refine RL.done ?_) | (with_reducible refine RL.wanted ?_ ?_; exact rfl) | ((with_reducible show RH _ _ _ ⟨_, .call ⟨.value (.func 90), _, _⟩, _, _, _, _⟩ _ _ _ _); refine RH.cW Try.call90 ?_; refine ⟨_, _, _, (by repeat (first | exact Pick.nil | (apply Pick.cons; (with_reducible repeat (first | exact Rem.head | apply Rem.tail))))), l8Put_c T t s w K hS hL htK (by omega) (by omega), ?_⟩; rintro _ _ ⟨s45, rfl, rfl⟩; refine RL.nm ?_) | ((with_reducible show RH _ _ _ _ _ _ _ _); first | refine RH.val (hK := ?_) | refine RH.upd (hK := ?_)) | (with_reducible first | refine Run.seq ?_ | refine Run.region ?_ | refine Run.block ?_ | refine Run.skip ?_ | refine Run.exit ?_) | (with_reducible show Run _ _ (.cond _ _ _) _ _ _; refine Run.condD rfl (fun h => ?_) (fun h => ?_)) | (with_reducible first | refine seqN (K := Run _ _ _ _) ?_ | refine seqE ?_ | refine blockN ?_ | refine blockE ?_))
        all_goals first
          | (exfalso; omega)
          | (have hS2 := putL_str hS hL htK
             have hlen : (putL T t).length ≤ T.length + 1 := putL_len T t
             with_reducible refine seqN ?_
             exact ⟨(k - 1, s45, putL T t, mm + 2 * i), ⟨by dsimp only; omega, hS2, (fun u hu => by
               rcases (putL_mem T t u).1 hu with rfl | h
               · exact htK
               · exact hL u h), by dsimp only; omega, by dsimp only; omega⟩, by dsimp only; omega, Ent.of (by dsimp only; (repeat (first | exact Sl.nil | refine Sl.cons rfl rfl ?_ | refine Sl.cons rfl (congrArg (fun z => vlit (Value.int .i64 z)) (by omega)) ?_))) (by dsimp only; exact chA)⟩)
          | trace_state
    · obtain rfl : k = 0 := by omega
      repeat' (first | (with_reducible first | refine RL.done ?_ | refine RL.app1 ?_) | (with_reducible refine RL.wanted ?_ ?_; exact rfl) | ((with_reducible show Run _ _ (.cond (.tmp 52) _ _) (Post.seq _ _) _ _); refine Run.cut (α := Sv × List (List Int) × Nat) (fun y => [(0, vptr b 0), (1, vint (N : Int)), (2, vint (K : Int)), (6, vptr b6 0), (7, vptr b7 0)]) (fun y => [hsl (tS tInt) (vsv y.1) y.2.1, hcells b7 [vint (K : Int), vlit (vsv y.1)], hcells b6 [vint 0, vlit (.slice none 0 0)], hcur b code y.2.2]) (fun y => y.2.1.length ≤ 512 ∧ (∀ u ∈ y.2.1, u.length ≤ 3) ∧ y.2.2 ≤ m + 120) ?_ ?_; rotate_left; rintro ⟨s, T, mm⟩ ⟨hT, hL, hmm⟩; (try dsimp only at hT hL hmm ⊢)) | ((with_reducible show Run _ _ (.cond (.tmp 58) _ _) (Post.seq _ _) _ _); refine Run.cut (α := Sv × List (List Int) × Nat) (fun y => [(0, vptr b 0), (1, vint (N : Int)), (2, vint (K : Int)), (6, vptr b6 0), (7, vptr b7 0)]) (fun y => [hsl (tS tInt) (vsv y.1) y.2.1, hcells b7 [vint (K : Int), vlit (vsv y.1)], hcells b6 [vint 0, vlit (.slice none 0 0)], hcur b code y.2.2]) (fun y => y.2.1.length ≤ 512 ∧ (∀ u ∈ y.2.1, u.length ≤ 3) ∧ y.2.2 ≤ m + 130) ?_ ?_; rotate_left; rintro ⟨s, T, mm⟩ ⟨hT, hL, hmm⟩; (try dsimp only at hT hL hmm ⊢)) | ((with_reducible show Run _ _ (.region 21 _ true) _ _ _); refine Run.regionD (fun i => i == 5 || i == 7) rfl ?_; change RD _ _ _ _ _ _ 8 (dm 8 0) _ _) | ((with_reducible show RD _ _ 21 _ _ _ _ _ _ _); first | ((with_reducible show RD _ _ _ _ _ _ _ (dm 8 0) _ _); refine RD.tk 0 (dm 8 226) (dm 8 1) (hK := ?_)) | ((with_reducible show RD _ _ _ _ _ _ _ (dm 8 1) _ _); refine RD.tk 1 (dm 8 224) (dm 8 3) (hK := ?_)) | ((with_reducible show RD _ _ _ _ _ _ _ (dm 8 3) _ _); refine RD.tk 2 (dm 8 248) (dm 8 7) (hK := ?_)) | ((with_reducible show RD _ _ _ _ _ _ _ (dm 8 7) _ _); refine RD.a1 3 ?_) | ((with_reducible show RD _ _ _ _ _ _ _ (dm 8 15) _ _); refine RD.a1 4 ?_) | ((with_reducible show RD _ _ _ _ _ _ _ (dm 8 31) _ _); refine RD.a1 5 ?_) | ((with_reducible show RD _ _ _ _ _ _ _ (dm 8 63) _ _); refine RD.tk 6 (dm 8 128) (dm 8 127) (hK := ?_)) | ((with_reducible show RD _ _ _ _ _ _ _ (dm 8 127) _ _); refine RD.a1 7 ?_) | ((with_reducible show RD _ _ _ _ _ _ 0 _ _ _); refine RD.done (by kernel_rfl) ?_)) | ((with_reducible show RO _ _ 21 _ _ _ _ _ _ _ _); first | ((with_reducible show RO _ _ _ _ _ _ _ (dm 8 7) 3 _ _); (refine RO.eS (dm 8 15) (hv := by show EOpS _ _ _ _ ⟨_, .makeSlice _ _ _, _, _, _, _⟩ _; exact EOpS.make (α := Int) (fun x => [vint x]) 0 (fun c => .cons rfl .nil) rfl rfl (by omega) (by omega) (by omega)) (h := ?_); rintro _ _ ⟨b75, rfl, rfl⟩)) | ((with_reducible show RO _ _ _ _ _ _ _ (dm 8 15) 4 _ _); (refine RO.eS (dm 8 31) (hv := by show EOpS _ _ _ _ ⟨_, .buildSlice _ _ _, _, _, _, _⟩ _; exact EOpS.slitV (by ((repeat (first | exact Elts.nil | apply Elts.one1 rfl | apply Elts.agg2 rfl)); done)) (by simp) rfl rfl) (h := ?_); rintro _ _ ⟨b76, rfl, rfl⟩)) | ((with_reducible show RO _ _ _ _ _ _ _ (dm 8 31) 5 _ _); (refine RO.h (dm 8 63) ?_; show RH _ _ _ ⟨_, _, _, _, _, _⟩ _ _ _ _)) | ((with_reducible show RO _ _ _ _ _ _ _ (dm 8 127) 7 _ _); (refine RO.h (dm 8 255) ?_; show RH _ _ _ ⟨_, _, _, _, _, _⟩ _ _ _ _))) | ((with_reducible show Run _ _ (.region 24 _ true) _ _ _); refine Run.regionD (fun i => i == 5 || i == 8) rfl ?_; change RD _ _ _ _ _ _ 9 (dm 9 0) _ _) | ((with_reducible show RD _ _ 24 _ _ _ _ _ _ _); first | ((with_reducible show RD _ _ _ _ _ _ _ (dm 9 0) _ _); refine RD.tk 2 (dm 9 480) (dm 9 4) (hK := ?_)) | ((with_reducible show RD _ _ _ _ _ _ _ (dm 9 4) _ _); refine RD.tk 3 (dm 9 496) (dm 9 12) (hK := ?_)) | ((with_reducible show RD _ _ _ _ _ _ _ (dm 9 12) _ _); refine RD.a2 0 4 ?_ ?_) | ((with_reducible show RD _ _ _ _ _ _ _ (dm 9 13) _ _); refine RD.a2 1 4 ?_ ?_) | ((with_reducible show RD _ _ _ _ _ _ _ (dm 9 28) _ _); refine RD.a2 0 5 ?_ ?_) | ((with_reducible show RD _ _ _ _ _ _ _ (dm 9 15) _ _); refine RD.a1 4 ?_) | ((with_reducible show RD _ _ _ _ _ _ _ (dm 9 29) _ _); refine RD.a2 1 5 ?_ ?_) | ((with_reducible show RD _ _ _ _ _ _ _ (dm 9 60) _ _); refine RD.tk 0 (dm 9 386) (dm 9 61) (hK := ?_)) | ((with_reducible show RD _ _ _ _ _ _ _ (dm 9 31) _ _); refine RD.a1 5 ?_) | ((with_reducible show RD _ _ _ _ _ _ _ (dm 9 61) _ _); refine RD.tk 1 (dm 9 384) (dm 9 63) (hK := ?_)) | ((with_reducible show RD _ _ _ _ _ _ _ (dm 9 63) _ _); refine RD.a1 6 ?_) | ((with_reducible show RD _ _ _ _ _ _ _ (dm 9 127) _ _); refine RD.tk 7 (dm 9 256) (dm 9 255) (hK := ?_)) | ((with_reducible show RD _ _ _ _ _ _ _ (dm 9 255) _ _); refine RD.a1 8 ?_) | ((with_reducible show RD _ _ _ _ _ _ 0 _ _ _); refine RD.done (by kernel_rfl) ?_)) | ((with_reducible show RO _ _ 24 _ _ _ _ _ _ _ _); first | ((with_reducible show RO _ _ _ _ _ _ _ (dm 9 12) 0 _ _); refine RO.v (dm 9 13) (hK := ?_)) | ((with_reducible show RO _ _ _ _ _ _ _ (dm 9 12) 4 _ _); (refine RO.eS (dm 9 28) (hv := by show EOpS _ _ _ _ ⟨_, .buildSlice _ _ _, _, _, _, _⟩ _; exact EOpS.slit (fun x : Int => [vint x]) _ (fun _ _ => rfl) (by repeat (first | exact Elts.nil | (apply Elts.cons; exact rfl; exact CellsOf.one))) rfl rfl) (h := ?_); rintro _ _ ⟨b89, rfl, rfl⟩)) | ((with_reducible show RO _ _ _ _ _ _ _ (dm 9 13) 1 _ _); refine RO.v (dm 9 15) (hK := ?_)) | ((with_reducible show RO _ _ _ _ _ _ _ (dm 9 13) 4 _ _); (refine RO.eS (dm 9 29) (hv := by show EOpS _ _ _ _ ⟨_, .buildSlice _ _ _, _, _, _, _⟩ _; exact EOpS.slit (fun x : Int => [vint x]) _ (fun _ _ => rfl) (by repeat (first | exact Elts.nil | (apply Elts.cons; exact rfl; exact CellsOf.one))) rfl rfl) (h := ?_); rintro _ _ ⟨b89, rfl, rfl⟩)) | ((with_reducible show RO _ _ _ _ _ _ _ (dm 9 28) 0 _ _); refine RO.v (dm 9 29) (hK := ?_)) | ((with_reducible show RO _ _ _ _ _ _ _ (dm 9 28) 5 _ _); (refine RO.h (dm 9 60) ?_; show RH _ _ _ ⟨_, _, _, _, _, _⟩ _ _ _ _)) | ((with_reducible show RO _ _ _ _ _ _ _ (dm 9 15) 4 _ _); (refine RO.eS (dm 9 31) (hv := by show EOpS _ _ _ _ ⟨_, .buildSlice _ _ _, _, _, _, _⟩ _; exact EOpS.slit (fun x : Int => [vint x]) _ (fun _ _ => rfl) (by repeat (first | exact Elts.nil | (apply Elts.cons; exact rfl; exact CellsOf.one))) rfl rfl) (h := ?_); rintro _ _ ⟨b89, rfl, rfl⟩)) | ((with_reducible show RO _ _ _ _ _ _ _ (dm 9 29) 1 _ _); refine RO.v (dm 9 31) (hK := ?_)) | ((with_reducible show RO _ _ _ _ _ _ _ (dm 9 29) 5 _ _); (refine RO.h (dm 9 61) ?_; show RH _ _ _ ⟨_, _, _, _, _, _⟩ _ _ _ _)) | ((with_reducible show RO _ _ _ _ _ _ _ (dm 9 31) 5 _ _); (refine RO.h (dm 9 63) ?_; show RH _ _ _ ⟨_, _, _, _, _, _⟩ _ _ _ _)) | ((with_reducible show RO _ _ _ _ _ _ _ (dm 9 63) 6 _ _); (refine RO.eS (dm 9 127) (hv := by show EOpS _ _ _ _ ⟨_, .buildSlice _ _ _, _, _, _, _⟩ _; exact EOpS.slit (fun x : Int => [vint x]) _ (fun _ _ => rfl) (by repeat (first | exact Elts.nil | (apply Elts.cons; exact rfl; exact CellsOf.one))) rfl rfl) (h := ?_); rintro _ _ ⟨b91, rfl, rfl⟩)) | ((with_reducible show RO _ _ _ _ _ _ _ (dm 9 255) 8 _ _); (refine RO.h (dm 9 511) ?_; show RH _ _ _ ⟨_, _, _, _, _, _⟩ _ _ _ _))) | ((with_reducible show RH _ _ _ ⟨some 67, .buildSlice _ _ _, _, _, _, _⟩ _ _ _ _); refine RH.eff rfl rfl (EOpS.e (EOpS.slit (fun x : Int => [vint x]) _ (fun _ _ => rfl) (by repeat (first | exact Elts.nil | (apply Elts.cons; exact rfl; exact CellsOf.one))) rfl rfl)) ?_; rintro _ _ ⟨b67, rfl, rfl⟩) | ((with_reducible show RH _ _ _ ⟨_, .call ⟨.value (.func 74), _, _⟩, _, _, _, _⟩ _ _ _ _); refine RH.cW Try.call74 ?_; refine ⟨_, _, _, (by repeat (first | exact Pick.nil | (apply Pick.cons; (with_reducible repeat (first | exact Rem.head | apply Rem.tail))))), one_c b code mm 3 hc (by omega), ?_⟩; rintro _ _ ⟨o1, rfl, rfl⟩; refine RL.nm ?_) | ((with_reducible show RH _ _ _ ⟨_, .call ⟨.value (.func 133), _, _⟩, _, _, _, _⟩ _ _ _ _); refine RH.cW Try.call133 ?_; refine ⟨_, _, _, (by repeat (first | exact Pick.nil | (apply Pick.cons; (with_reducible repeat (first | exact Rem.head | apply Rem.tail))))), partition13_c b code (mm + 2) N hc (by omega) (by omega), ?_⟩; rintro _ _ ⟨sp, p, rfl, rfl, hp⟩; refine RL.nm ?_) | ((with_reducible show RH _ _ _ ⟨_, .call ⟨.value (.func 132), _, _⟩, _, _, _, _⟩ _ _ _ _); refine RH.cL Try.call132 ?_; apply Exists.intro; apply And.intro; (focus ((repeat (first | exact LVs.nil | (apply LVs.sl; (with_reducible repeat (exact Has.head)); exact inferInstance; exact rfl))); done)); refine ⟨_, l13OfPartition_c p (by omega), (by intro r H h; first | (obtain ⟨rfl, rfl⟩ := h; exact ⟨inferInstance, inferInstance⟩) | (obtain ⟨_, rfl, rfl⟩ := h; exact ⟨inferInstance, inferInstance⟩) | (obtain ⟨_, _, rfl, rfl⟩ := h; exact ⟨inferInstance, inferInstance⟩) | (obtain ⟨_, _, rfl, rfl, _⟩ := h; exact ⟨inferInstance, inferInstance⟩)), ?_⟩; rintro _ _ ⟨s56, rfl, rfl⟩; refine RL.nm ?_) | ((with_reducible show RH _ _ _ ⟨_, .call ⟨.value (.func 74), _, _⟩, _, _, _, _⟩ _ _ _ _); refine RH.cW Try.call74 ?_; refine ⟨_, _, _, (by repeat (first | exact Pick.nil | (apply Pick.cons; (with_reducible repeat (first | exact Rem.head | apply Rem.tail))))), one_c b code mm 12 hc (by omega), ?_⟩; rintro _ _ ⟨o2, rfl, rfl⟩; refine RL.nm ?_) | ((with_reducible show RH _ _ _ ⟨_, .call ⟨.value (.func 93), _, _⟩, _, _, _, _⟩ _ _ _ _); refine RH.cP Try.call93 ?_; refine ⟨_, l13Full_c (N : Int) K (by omega) (by omega) (by omega), ?_⟩; rintro _ _ ⟨s61, rfl, rfl⟩) | ((with_reducible show RH _ _ _ ⟨_, .call ⟨.value (.func 81), _, _⟩, _, _, _, _⟩ _ _ _ _); refine RH.cW Try.call81 ?_; refine ⟨_, _, _, (by repeat (first | exact Pick.nil | (apply Pick.cons; (with_reducible repeat (first | exact Rem.head | apply Rem.tail))))), pick_c b code mm 40 hc (by omega), ?_⟩; rintro _ _ ⟨z, rfl, rfl, hz0, hz1, hz2⟩; refine RL.nm ?_) | ((with_reducible show RH _ _ _ ⟨_, .call ⟨.value (.func 66), _, _⟩, _, _, _, _⟩ _ _ _ _); refine RH.cW Try.call66 ?_; refine ⟨_, _, _, (by repeat (first | exact Pick.nil | (apply Pick.cons; (with_reducible repeat (first | exact Rem.head | apply Rem.tail))))), amongO_c b code (mm + 2) _ _ _ hc (by omega) (by first | rfl | simp) (by decide), ?_⟩; rintro _ _ ⟨x1, rfl, rfl, hx1⟩; refine RL.nm ?_) | ((with_reducible show RH _ _ _ ⟨_, .call ⟨.builtin .append, _, _⟩, _, _, _, _⟩ _ _ _ _); (refine RH.appRI rfl rfl rfl (by repeat (first | exact Pick.nil | (apply Pick.cons; (with_reducible repeat (first | exact Rem.head | apply Rem.tail))))) (by first | exact rfl | (simp; done)) (by first | omega | (simp; omega)) (by first | omega | (simp; omega)) ?_); rintro _ _ ⟨s, rfl, rfl⟩) | ((with_reducible show RH _ _ _ _ _ _ _ _); first | refine RH.val (hK := ?_) | refine RH.upd (hK := ?_)) | (with_reducible show RL _ _ _ (_ :: _) _ _ _; first | refine RL.guardYes rfl rfl rfl rfl ?_ | refine RL.guardNoS rfl rfl rfl rfl rfl rfl ?_ | refine RL.splitD rfl rfl rfl (fun h => ?_) (fun h => ?_)) | (with_reducible first | refine Run.seq ?_ | refine Run.region ?_ | refine Run.block ?_ | refine Run.skip ?_ | refine Run.exit ?_ | refine Run.ret ?_) | (with_reducible show Run _ _ (.cond _ _ _) _ _ _; first | refine Run.condF rfl ?_ | refine Run.condD rfl (fun h => ?_) (fun h => ?_) | refine Run.cond rfl (fun h => ?_) (fun h => ?_)) | (with_reducible first | refine seqN (K := Run _ _ _ _) ?_ | refine seqE ?_ | refine blockN ?_ | refine blockE ?_))
      all_goals first
        | (exfalso; omega)
        | (show _ ∧ ∃ rs S2, Res _ ((93, vagg [vint (K : Int), _]) :: _) (hcur b code _ :: hsl (tS tInt) (vsv s) T :: _) _ rs ∧ _
           refine ⟨eA, _, [hsl (tS tInt) (vsv s) T, hcur b code (m + 200)], resA, ?_, ?_⟩
           · exact (SEnt.pick (B := [hcur b code _]) (by ((repeat (first | exact Pick.nil | (apply Pick.cons; (repeat (first | exact Rem.head | apply Rem.tail))))); done))).trans ((SEnt.curLe (m' := m + 200) (by omega)).trans (SEnt.ch (by ((repeat (first | exact Ch.nil | refine Ch.same (by ((repeat (first | exact Rem.head | apply Rem.tail)); done)) ?_ | fail)); done))))
           · exact ⟨_, s, _, rfl, rfl, by omega, hL, .inl rfl⟩)
        | (show _ ∧ ∃ rs S2, Res _ ((93, vagg [vint x1, _]) :: _) (hcur b code _ :: hsl (tS tInt) (vsv s) T :: _) _ rs ∧ _
           have h9 : x1 = 0 ∨ x1 = 4 ∨ x1 = -1 := by simpa using hx1
           refine ⟨eA, _, [hsl (tS tInt) (vsv s) T, hcur b code (m + 200)], resA, ?_, ?_⟩
           · exact (SEnt.pick (B := [hcur b code _]) (by ((repeat (first | exact Pick.nil | (apply Pick.cons; (repeat (first | exact Rem.head | apply Rem.tail))))); done))).trans ((SEnt.curLe (m' := m + 200) (by omega)).trans (SEnt.ch (by ((repeat (first | exact Ch.nil | refine Ch.same (by ((repeat (first | exact Rem.head | apply Rem.tail)); done)) ?_ | fail)); done))))
           · exact ⟨_, s, _, rfl, rfl, by omega, hL, .inr (by omega)⟩)
        | (show _ ∧ ∃ rs S2, Res _ ((93, vagg [vint (K : Int), _]) :: _) (hsl (tS tInt) (vsv s) (T ++ _) :: _) _ rs ∧ _
           have h9 : (T ++ [List.replicate K (0 : Int)]).length ≤ 600 := by rw [List.length_append, List.length_singleton]; omega
           have h8 : ∀ u ∈ T ++ [List.replicate K (0 : Int)], u.length ≤ 3 := fun u hu => by
             rcases List.mem_append.1 hu with h | h
             · exact hL u h
             · rw [List.mem_singleton.1 h, List.length_replicate]; omega
           refine ⟨eA, _, [hsl (tS tInt) (vsv s) (T ++ [List.replicate K (0 : Int)]), hcur b code (m + 200)], resA, ?_, ?_⟩
           · exact (SEnt.pick (B := [hcur b code _]) (by ((repeat (first | exact Pick.nil | (apply Pick.cons; (repeat (first | exact Rem.head | apply Rem.tail))))); done))).trans ((SEnt.curLe (m' := m + 200) (by omega)).trans (SEnt.ch (by ((repeat (first | exact Ch.nil | refine Ch.same (by ((repeat (first | exact Rem.head | apply Rem.tail)); done)) ?_ | fail)); done))))
           · exact ⟨_, s, _, rfl, rfl, h9, h8, .inl rfl⟩)
        | (show _ ∧ ∃ rs S2, Res _ ((93, vagg [vint (K : Int), _]) :: _) (hsl (tS tInt) (vsv s) (T.set _ _) :: _) _ rs ∧ _
           have h9 : (T.set 0 [x1]).length ≤ 600 := by rw [List.length_set]; omega
           have h8 : ∀ u ∈ T.set 0 [x1], u.length ≤ 3 := fun u hu => by
             rcases List.mem_or_eq_of_mem_set hu with h | h
             · exact hL u h
             · rw [h]; simp
           refine ⟨eA, _, [hsl (tS tInt) (vsv s) (T.set 0 [x1]), hcur b code (m + 200)], resA, ?_, ?_⟩
           · exact (SEnt.pick (B := [hcur b code _]) (by ((repeat (first | exact Pick.nil | (apply Pick.cons; (repeat (first | exact Rem.head | apply Rem.tail))))); done))).trans ((SEnt.curLe (m' := m + 200) (by omega)).trans (SEnt.ch (by ((repeat (first | exact Ch.nil | refine Ch.same (by ((repeat (first | exact Rem.head | apply Rem.tail)); done)) ?_ | fail)); done))))
           · exact ⟨_, s, _, rfl, rfl, h9, h8, .inl rfl⟩)
        | (show Met _ _ _ _ _ (hcur b code (mm + 2) :: hsl (tS tInt) (vsv s) T :: _)
           exact Met.mk (s, T, mm + 2) ⟨by dsimp only; omega, by dsimp only; first | exact hL | exact fun u hu => by have := hL u hu; omega, by dsimp only; omega⟩ (Ent.of slA chA))
        | (show Met _ _ _ _ _ (hsl (tS tInt) (vsv s) T :: _)
           exact Met.mk (s, T, mm) ⟨by dsimp only; omega, by dsimp only; first | exact hL | exact fun u hu => by have := hL u hu; omega, by dsimp only; omega⟩ (Ent.of slA chA))
        | (show Met _ _ _ _ _ (hsl (tS tInt) (vsv s61) _ :: _)
           have h5 := pw_512 (N : Int) (by omega) (by omega) K (by omega)
           exact Met.mk (s61, tups (N : Int) K (pw (N : Int) K).toNat, mm + 2) ⟨by dsimp only; rw [tups_length]; omega, fun u hu => by
             obtain ⟨i, _, rfl⟩ := List.mem_map.1 hu
             rw [lowd_length]; omega, by dsimp only; omega⟩ (Ent.of slA chA))
        | (show Met _ _ _ _ _ (hsl (tS tInt) (vsv s56) _ :: _)
           have h5 := pairsAll_small p p.length (Nat.le_refl _) (by omega)
           obtain rfl : K = 2 := by omega
           exact Met.mk (s56, pairsAll p p.length, mm + 2 + 2 * N) ⟨by dsimp only; omega, fun u hu => by
             obtain ⟨i, _, hu⟩ := List.mem_flatMap.1 hu
             obtain ⟨j, _, rfl⟩ := List.mem_map.1 hu
             simp, by dsimp only; omega⟩ (Ent.of slA (by ((repeat (first | exact Ch.nil | refine Ch.same (by ((repeat (first | exact Rem.head | apply Rem.tail)); done)) ?_ | fail)); done))))
        | trace_state
  · refine Spec.of_run2 (n := 94) Try.func65 rfl Try.results65 Try.ntmps65 rfl ?_
    repeat' (first | (with_reducible first | refine RL.done ?_ | refine RL.app0 ?_) | (with_reducible refine RL.wanted ?_ ?_; exact rfl) | ((with_reducible show RH _ _ _ ⟨some 6, .alloc _, _, _, _, _⟩ _ _ _ _); refine RH.alloc rfl ?_; rintro _ _ ⟨b6, rfl, rfl⟩) | ((with_reducible show RH _ _ _ ⟨some 12, .buildSlice _ _ _, _, _, _, _⟩ _ _ _ _); (refine RH.eff rfl rfl (EOpS.e (EOpS.slitV (by ((repeat (first | exact Elts.nil | apply Elts.one1 rfl | apply Elts.agg2 rfl)); done)) (by simp) rfl rfl)) ?_; rintro _ _ ⟨b12, rfl, rfl⟩)) | ((with_reducible show RH _ _ _ ⟨some 7, .alloc _, _, _, _, _⟩ _ _ _ _); refine RH.alloc rfl ?_; rintro _ _ ⟨b7, rfl, rfl⟩) | ((with_reducible show RH _ _ _ ⟨some 24, .buildSlice _ _ _, _, _, _, _⟩ _ _ _ _); refine RH.eff rfl rfl (EOpS.e (EOpS.slit (fun x : Int => [vint x]) _ (fun _ _ => rfl) (by repeat (first | exact Elts.nil | (apply Elts.cons; exact rfl; exact CellsOf.one))) rfl rfl)) ?_; rintro _ _ ⟨b24, rfl, rfl⟩) | ((with_reducible show RH _ _ _ ⟨_, .call ⟨.value (.func 88), _, _⟩, _, _, _, _⟩ _ _ _ _); refine RH.cP Try.call88 ?_; refine ⟨_, l6Size_c _, ?_⟩; rintro _ _ ⟨rfl, rfl⟩) | ((with_reducible show RH _ _ _ ⟨_, .call ⟨.value (.func 85), _, _⟩, _, _, _, _⟩ _ _ _ _); refine RH.cP Try.call85 ?_; refine ⟨_, l1In_c _ _ _, ?_⟩; rintro _ _ ⟨rfl, rfl⟩) | ((with_reducible show RH _ _ _ _ _ _ _ _); first | refine RH.val (hK := ?_) | refine RH.upd (hK := ?_)) | (with_reducible show RL _ _ _ (_ :: _) _ _ _; first | refine RL.guardYes rfl rfl rfl rfl ?_ | refine RL.guardNoS rfl rfl rfl rfl rfl rfl ?_ | refine RL.splitND rfl rfl rfl (fun h => ?_) (fun h => ?_)) | (with_reducible first | refine Run.seq ?_ | refine Run.region ?_ | refine Run.skip ?_ | refine Run.ret ?_) | (with_reducible show Run _ _ (.cond _ _ _) _ _ _; first | refine Run.condT rfl ?_ | refine Run.condND rfl (fun h => ?_) (fun h => ?_)) | (with_reducible first | refine seqN (K := Run _ _ _ _) ?_ | refine seqR ?_))
    all_goals first
      | (exfalso; omega)
      | (refine ⟨eA, _, [hsl (tS tInt) (vsv (some ⟨b12, 0, none⟩, 0, 0)) [], hcur b code (m + 200)], resA, ?_, ?_⟩
         · exact (SEnt.pick (B := [harr b12 1 (List.map vlit) [] (0 * 1), hcur b code m]) (by repeat (first | exact Pick.nil | (apply Pick.cons; (repeat (first | exact Rem.head | apply Rem.tail)))))).trans ((SEnt.packNil (tS tInt) rfl).trans ((SEnt.pick (B := [hcur b code m]) (.cons (.tail .head) .nil)).trans ((SEnt.curLe (by omega)).trans (SEnt.ch (.cons (.tail .head) rfl (.cons .head rfl .nil))))))
         · exact ⟨a, (some ⟨b12, 0, none⟩, 0, 0), [], rfl, rfl, by simp, (fun t h => by cases h), .inl rfl⟩)
      | trace_state
end Go.Proofs.Ytiifdhdhjioefaa
