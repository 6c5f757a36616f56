/- strings.Builder: copyCheck, WriteString, String. Proved for this program; conditions: less than 2^47 bytes; String: of a builder that holds a byte. -/
import Derived.Test.YtemfpennomelaaaDoorStrA
import Derived.Lib.Builder
import Derived.Lib.UnsafeStr
import Derived.Lib.Walk
import Derived.WalkKit
import Derived.Laws.Externs
namespace Go.Proofs.YtemfpennomelaaaDoor
open Go Go.Proofs Go.RowKit
set_option linter.unusedVariables false
/-- what a builder holds: fresh, or its own address and a buffer -/
def bldH (T e b : Nat) (xs : List UInt8) : Option Value → HP
  | none => hand (xs = []) (hobj b T #[.pointer none, .slice none 0 0])
  | some v => hstar (hcells b [vptr b 0, vlit v]) (hbuf e v xs)
def hbld (T e b : Nat) (xs : List UInt8) : HP := hexs (bldH T e b xs)
theorem SEnt.bldNew {T e b : Nat} {S : List HP} : SEnt (hobj b T #[.pointer none, .slice none 0 0] :: S) (hbld T e b [] :: S) :=
  (SEnt.hand (p := ([] : List UInt8) = []) rfl).trans (SEnt.exs (h := bldH T e b []) none)
theorem SEnt.bldUsed {T e b : Nat} {v : Value} {xs : List UInt8} {S : List HP} : SEnt (hcells b [vptr b 0, vlit v] :: hbuf e v xs :: S) (hbld T e b xs :: S) :=
  SEnt.star.trans (SEnt.exs (h := bldH T e b xs) (some v))
/-- the cells of a world in which one cell is written -/
theorem setCell_heap {w : World} {b o : Nat} {arr : Array Value} {t : TypeId} {u : Value} (hb : w.heap[b]? = some (.cells arr t (0, 0))) : (w.setCell ⟨b, o, none⟩ u) = setW w b (arr.setIfInBounds o u) t := by
  have h1 : w.heap.modify b (fun x => match x with | .cells c e f => .cells (c.setIfInBounds o u) e f | o => o) = w.heap.setIfInBounds b (.cells (arr.setIfInBounds o u) t (0, 0)) := by
    apply Array.ext_getElem?
    intro i
    rw [Array.getElem?_modify, Array.getElem?_setIfInBounds]
    by_cases e : b = i
    · subst e
      have hlt := (Array.getElem?_eq_some_iff.1 hb).1
      have h2 : w.heap[b]'hlt = .cells arr t (0, 0) := (Array.getElem?_eq_some_iff.1 hb).2
      simp [hlt, h2]
    · simp [e]
  simp only [World.setCell, setW]
  rw [← h1]
  rfl
section
set_option maxHeartbeats 1000000 in
set_option maxRecDepth 100000 in
theorem copyF (b : Nat) (w : World) (h0 : w.cell? ⟨b, 0, none⟩ = some (.pointer none)) (hsh : w.shape? b = some (58, 2)) (hfz : w.frozen? ⟨b, 0, none⟩ = false) :
    Calls Tryd.prog 43 #[.pointer (some ⟨b, 0, none⟩)] w fun e w' => e = .returned (.tuple #[]) ∧ w' = w.setCell ⟨b, 0, none⟩ (.pointer (some ⟨b, 0, none⟩)) := by
  obtain ⟨j, hj, hjs⟩ := Option.map_eq_some_iff.1 (show (Tryd.prog.info? 58).map (·.size) = some 2 by kernel_rfl)
  go_enter Tryd.func43, Tryd.ntmps43
  go_wp2
  rw [Lib.run_to_unsafe w ⟨b, 0, none⟩ Tryd.underlying55 Tryd.underlying82 hj (by rw [hjs]; decide) hsh (Nat.zero_lt_succ 1)]
  simp only [Result.andThen]
  rw [Oper.upon_value]
  go_wp2
  rw [run_callFunc_extern Tryd.func55 (by kernel_rfl) (by kernel_rfl) (by kernel_rfl) (e := Extern.AbiNoEscape.same) (by kernel_rfl)]
  rw [Lib.run_noEscape]
  simp only [Result.andThen]
  rw [Oper.upon_value]
  go_wp2
  rw [Lib.run_from_unsafe w ⟨b, 0, none⟩ Tryd.underlying82 Tryd.underlying55 hj hsh (by kernel_rfl)]
  simp only [Result.andThen]
  rw [Oper.upon_value]
  go_wp2
  go_end0
  exact ⟨rfl, rfl⟩
set_option maxHeartbeats 1000000 in
set_option maxRecDepth 100000 in
theorem copyU (b : Nat) (w : World) (h0 : w.cell? ⟨b, 0, none⟩ = some (.pointer (some ⟨b, 0, none⟩))) :
    Calls Tryd.prog 43 #[.pointer (some ⟨b, 0, none⟩)] w fun e w' => e = .returned (.tuple #[]) ∧ w' = w := by
  obtain ⟨j, hj, hjs⟩ := Option.map_eq_some_iff.1 (show (Tryd.prog.info? 58).map (·.size) = some 2 by kernel_rfl)
  go_enter Tryd.func43, Tryd.ntmps43
  go_wp2
  rw [Lib.run_neq_ptr_same w _ Tryd.underlying55 hj]
  go_wp2
  go_end0
  exact ⟨rfl, rfl⟩
theorem SEnt.bufNil {e : Nat} {S : List HP} : SEnt S (hbuf e (.slice none 0 0) [] :: S) := fun c fs hs => ⟨_, hs.cons0 (.inl ⟨rfl, rfl, rfl⟩)⟩
theorem copyF_c (b : Nat) : Spec Tryd.prog 43 [vptr b 0] [hobj b 58 #[.pointer none, .slice none 0 0]] (fun r S' => r = vtup [] ∧ S' = [hbuf 5 (.slice none 0 0) [], hcells b [vptr b 0, vlit (.slice none 0 0)]]) :=
  ⟨fun c vs ha hs => by
    cases ha with
    | cons h1 ha =>
      cases ha; cases h1
      obtain ⟨fs, hsf⟩ := hs
      obtain ⟨f, gs, rfl, rfl, hb⟩ := hsf.head
      have hlt := (Array.getElem?_eq_some_iff.1 hb).1
      refine (copyF b c.w (by rw [cell_row hb]; rfl) (by simp [World.shape?, hb]) (by simp [World.frozen?, hb])).mono fun e w' ⟨he, hw⟩ => ?_
      rw [setCell_heap hb] at hw
      obtain ⟨hl, hs'⟩ := SH.put (arr' := #[.pointer (some ⟨b, 0, none⟩), .slice none 0 0]) ⟨_, hsf⟩ ((Plc.head).upd (hcells b [vptr b 0, vlit (.slice none 0 0)])) hb (fun f h => h.1) (fun hl => ⟨rfl, ⟨_, _, setW_at hlt, rfl⟩, cellsAt_row (vs := [.pointer (some ⟨b, 0, none⟩), .slice none 0 0]) (setW_at hlt) (.cons rfl (.cons rfl .nil))⟩)
      subst hw
      obtain ⟨gs2, h2⟩ := hs'
      obtain ⟨gs3, h3⟩ := SEnt.bufNil (e := 5) _ _ h2
      exact ⟨_, c.F, vtup [], [hbuf 5 (.slice none 0 0) [], hcells b [vptr b 0, vlit (.slice none 0 0)]], he, hl, ⟨[], rfl, .nil⟩, ⟨gs3, h3⟩, rfl, rfl⟩⟩
theorem copyU_c (b : Nat) (v : Value) : Spec Tryd.prog 43 [vptr b 0] [hcells b [vptr b 0, vlit v]] (fun r S' => r = vtup [] ∧ S' = [hcells b [vptr b 0, vlit v]]) :=
  ⟨fun c vs ha hs => by
    cases ha with
    | cons h1 ha =>
      cases ha; cases h1
      obtain ⟨fs, hsf⟩ := id hs
      obtain ⟨f, gs, rfl, rfl, _, hE⟩ := hsf.head
      obtain ⟨u, h2, h3⟩ := hE 0 _ rfl
      cases h3
      refine (copyU b c.w (by simpa using h2)).mono fun e w' ⟨he, hw⟩ => ?_
      subst hw
      exact ⟨_, c.F, vtup [], _, he, .refl c, ⟨[], rfl, .nil⟩, hs, rfl, rfl⟩⟩
abbrev WrRes (b : Nat) (k : ByteArray) (xs : List UInt8) (r : VP) (S' : List HP) : Prop := ∃ s : Sv, r = vtup [vint (k.size : Int), vlit .nilIface] ∧ S' = [hcells b [vptr b 0, vlit (vsv s)], hbuf 5 (vsv s) (xs ++ k.data.toList)]
set_option maxRecDepth 10000 in
theorem writeU_c (b : Nat) (v : Value) (xs : List UInt8) (k : ByteArray) (hk : xs.length + k.size ≤ 140737488355328) :
    Spec Tryd.prog 28 [vptr b 0, vstr k] [hcells b [vptr b 0, vlit v], hbuf 5 v xs] (WrRes b k xs) := by
  refine Spec.of_run2 (n := 19) Tryd.func28 rfl Tryd.results28 Tryd.ntmps28 rfl ?_
  repeat' (first | (with_reducible first | refine RL.done ?_ | refine RL.app0 ?_ | refine RL.app1 ?_ | refine RL.app2 ?_ | refine RL.app3 ?_ | refine RL.app4 ?_) | (with_reducible refine RL.wanted ?_ ?_; exact rfl) | ((with_reducible show RH _ _ _ ⟨some 14, .call ⟨.builtin .append, _, _⟩, _, _, _, _⟩ _ _ _ _); refine RH.eff rfl rfl (EOp.appStr rfl rfl (by with_reducible repeat (first | exact Rem.head | apply Rem.tail)) (by first | omega | (simp; omega)) (by first | omega | (simp; omega))) ?_; rintro _ _ ⟨s14, rfl, rfl⟩) | ((with_reducible show RH _ _ _ ⟨_, .call ⟨.value (.func 43), _, _⟩, _, _, _, _⟩ _ _ _ _); refine RH.cW Tryd.call43 ?_; refine ⟨_, _, _, (by repeat (first | exact Pick.nil | (apply Pick.cons; (with_reducible repeat (first | exact Rem.head | apply Rem.tail))))), copyU_c b v, ?_⟩; rintro _ _ ⟨rfl, rfl⟩; refine RL.nm ?_) | ((with_reducible show RH _ _ _ _ _ _ _ _); first | refine RH.val (hK := ?_) | refine RH.upd (hK := ?_) | (refine RH.lr (h := ?_); intro u)) | (with_reducible first | refine Run.seq ?_ | refine Run.region ?_ | refine Run.block ?_ | refine Run.skip ?_ | refine Run.exit ?_ | refine Run.ret ?_) | (with_reducible show Run _ _ (.cond _ _ _) _ _ _; first | refine Run.condT rfl ?_ | refine Run.condF rfl ?_ | refine Run.condD rfl (fun h => ?_) (fun h => ?_) | refine Run.condND rfl (fun h => ?_) (fun h => ?_) | refine Run.condNB rfl (fun h => ?_) (fun h => ?_) | refine Run.cond rfl (fun h => ?_) (fun h => ?_)) | (with_reducible first | refine seqN (K := Run _ _ _ _) ?_ | refine seqE ?_ | refine seqR ?_ | refine blockN ?_ | refine blockR ?_ | refine blockE ?_) | (with_reducible refine blockX ?_ ?_; exact rfl))
  refine ⟨eA, _, [hcells b [vptr b 0, vlit (vsv s14)], hbuf 5 (vsv s14) (xs ++ k.data.toList)], resA, ?_, ?_⟩
  · exact SEnt.ch chA
  · exact ⟨s14, rfl, rfl⟩
set_option maxRecDepth 10000 in
theorem writeF_c (b : Nat) (k : ByteArray) (hk : k.size ≤ 140737488355328) :
    Spec Tryd.prog 28 [vptr b 0, vstr k] [hobj b 58 #[.pointer none, .slice none 0 0]] (WrRes b k []) := by
  refine Spec.of_run2 (n := 19) Tryd.func28 rfl Tryd.results28 Tryd.ntmps28 rfl ?_
  repeat' (first | (with_reducible first | refine RL.done ?_ | refine RL.app0 ?_ | refine RL.app1 ?_ | refine RL.app2 ?_ | refine RL.app3 ?_ | refine RL.app4 ?_) | (with_reducible refine RL.wanted ?_ ?_; exact rfl) | ((with_reducible show RH _ _ _ ⟨some 14, .call ⟨.builtin .append, _, _⟩, _, _, _, _⟩ _ _ _ _); refine RH.eff rfl rfl (EOp.appStr rfl rfl (by with_reducible repeat (first | exact Rem.head | apply Rem.tail)) (by first | omega | (simp; omega)) (by first | omega | (simp; omega))) ?_; rintro _ _ ⟨s14, rfl, rfl⟩) | ((with_reducible show RH _ _ _ ⟨_, .call ⟨.value (.func 43), _, _⟩, _, _, _, _⟩ _ _ _ _); refine RH.cW Tryd.call43 ?_; refine ⟨_, _, _, (by repeat (first | exact Pick.nil | (apply Pick.cons; (with_reducible repeat (first | exact Rem.head | apply Rem.tail))))), copyF_c b, ?_⟩; rintro _ _ ⟨rfl, rfl⟩; refine RL.nm ?_) | ((with_reducible show RH _ _ _ _ _ _ _ _); first | refine RH.val (hK := ?_) | refine RH.upd (hK := ?_) | (refine RH.lr (h := ?_); intro u)) | (with_reducible first | refine Run.seq ?_ | refine Run.region ?_ | refine Run.block ?_ | refine Run.skip ?_ | refine Run.exit ?_ | refine Run.ret ?_) | (with_reducible show Run _ _ (.cond _ _ _) _ _ _; first | refine Run.condT rfl ?_ | refine Run.condF rfl ?_ | refine Run.condD rfl (fun h => ?_) (fun h => ?_) | refine Run.condND rfl (fun h => ?_) (fun h => ?_) | refine Run.condNB rfl (fun h => ?_) (fun h => ?_) | refine Run.cond rfl (fun h => ?_) (fun h => ?_)) | (with_reducible first | refine seqN (K := Run _ _ _ _) ?_ | refine seqE ?_ | refine seqR ?_ | refine blockN ?_ | refine blockR ?_ | refine blockE ?_) | (with_reducible refine blockX ?_ ?_; exact rfl))
  refine ⟨eA, _, [hcells b [vptr b 0, vlit (vsv s14)], hbuf 5 (vsv s14) ([] ++ k.data.toList)], resA, ?_, ?_⟩
  · exact SEnt.ch chA
  · exact ⟨s14, rfl, rfl⟩
theorem writeString_c (b : Nat) (xs : List UInt8) (k : ByteArray) (hk : xs.length + k.size ≤ 140737488355328) :
    Spec Tryd.prog 28 [vptr b 0, vstr k] [hbld 58 5 b xs] (fun r S' => r = vtup [vint (k.size : Int), vlit .nilIface] ∧ S' = [hbld 58 5 b (xs ++ k.data.toList)]) :=
  Spec.exs fun o => match o with
    | none => Spec.hand fun h => by
      subst h
      exact (writeF_c b k (by simpa using hk)).post fun r S' ⟨s, h1, h2⟩ => by rw [h2]; exact .of SEnt.bldUsed ⟨h1, rfl⟩
    | some v => Spec.pre SEnt.unstar ((writeU_c b v xs k hk).post fun r S' ⟨s, h1, h2⟩ => by rw [h2]; exact .of SEnt.bldUsed ⟨h1, rfl⟩)
theorem writeBs_c (b : Nat) (xs ys : List UInt8) (hk : xs.length + ys.length ≤ 140737488355328) :
    Spec Tryd.prog 28 [vptr b 0, vstr (bs ys)] [hbld 58 5 b xs] (fun r S' => r = vtup [vint (ys.length : Int), vlit .nilIface] ∧ S' = [hbld 58 5 b (xs ++ ys)]) := by
  have h := writeString_c b xs (bs ys) (by rw [bs_size]; exact hk)
  rw [bs_size, bs_data] at h
  exact h
set_option maxHeartbeats 2000000 in
set_option maxRecDepth 100000 in
theorem strW (b g cap : Nat) (l : List UInt8) (w : World) (cur : Array Value) (h0 : l ≠ []) (hc : w.cell? ⟨b, 1, none⟩ = some (.slice (some ⟨g, 0, none⟩) l.length cap)) (hg : w.heap[g]? = some (.cells cur 5 (0, 0))) (hsz : cur.size = cap) (hle : l.length ≤ cap)
    (htk : cur.toList.take l.length = u8s l) (h63 : l.length ≤ 4611686018427387904) :
    Calls Tryd.prog 29 #[.pointer (some ⟨b, 0, none⟩)] w fun e w' => e = .returned (.string ⟨l.toArray⟩) ∧ w' = w.drew.freeze ⟨g, 0, none⟩ l.length := by
  have hl0 : l.length ≠ 0 := by simpa using h0
  have c1 : w.drew.cell? ⟨b, 1, none⟩ = some (.slice (some ⟨g, 0, none⟩) l.length cap) := hc
  have hSD : (Builtin.unsafeSliceData_ #[56] 75 #[.slice (some ⟨g, 0, none⟩) l.length cap]).run Tryd.prog w.drew = .ok (.pointer (some ⟨g, 0, none⟩)) w.drew :=
    Lib.run_unsafeSliceData_row _ _ _ _ _ _ (by omega)
  have hg' : w.drew.heap[g]? = some (.cells cur 5 (0, 0)) := hg
  have hUS : (Builtin.unsafeString_ #[75, 3] 9 #[.pointer (some ⟨g, 0, none⟩), .int .i64 l.length]).run Tryd.prog w.drew = .ok (.string ⟨l.toArray⟩) (w.drew.freeze ⟨g, 0, none⟩ l.length) := by
    refine Lib.run_unsafeString_row w.drew 75 3 9 5 Tryd.underlying75 (by kernel_rfl) g cur.size (by simp [World.shape?, hg']) l h0 (by omega) (by omega) ?_
    intro j x hx
    have hj := (List.getElem?_eq_some_iff.1 hx).1
    have h1 : (u8s l)[j]? = some (.int .u8 (x.toNat : Int)) := by rw [u8s, List.getElem?_map, hx]; rfl
    rw [← htk, List.getElem?_take, if_pos hj] at h1
    rw [add_zero_addr, cell_row hg', Nat.zero_add]
    simpa using h1
  go_enter Tryd.func29, Tryd.ntmps29
  go_wp2
  go_region
  all_goals (go_wp2; go_ret; exact ⟨rfl, rfl⟩)
theorem freeze_other {w : World} {g n k : Nat} (h : k ≠ g) : (w.freeze ⟨g, 0, none⟩ n).heap[k]? = w.heap[k]? := by
  unfold World.freeze
  split
  · rfl
  · simp only [Array.getElem?_modify]
    rw [if_neg (Ne.symm h)]
theorem freeze_size (w : World) (g n : Nat) : (w.freeze ⟨g, 0, none⟩ n).heap.size = w.heap.size := by
  unfold World.freeze
  split
  · rfl
  · simp
theorem freeze_rest (w : World) (g n : Nat) : (w.freeze ⟨g, 0, none⟩ n).os = w.os ∧ (w.freeze ⟨g, 0, none⟩ n).tape = w.tape ∧ (w.freeze ⟨g, 0, none⟩ n).output = w.output := by
  unfold World.freeze
  split <;> exact ⟨rfl, rfl, rfl⟩
theorem string_c (b : Nat) (xs : List UInt8) (h0 : xs ≠ []) (h63 : xs.length ≤ 4611686018427387904) :
    Spec Tryd.prog 29 [vptr b 0] [hbld 58 5 b xs] (fun r S' => r = vstr ⟨xs.toArray⟩ ∧ S' = []) :=
  Spec.exs fun o => match o with
    | none => Spec.hand fun h => absurd h h0
    | some v => Spec.pre SEnt.unstar ⟨fun c vs ha hs => by
      cases ha with
      | cons h1 ha =>
        cases ha; cases h1
        obtain ⟨fs, hsf⟩ := hs
        obtain ⟨f1, f2, gs, rfl, ⟨rfl, _, hE⟩, h2⟩ := hsf.two
        obtain ⟨u, h3, h4⟩ := hE 1 _ rfl
        cases h4
        rcases h2 with ⟨h5, _, _⟩ | ⟨g, cap, cur, rfl, hg, hsz, hle, htk, rfl⟩
        · exact absurd h5 h0
        · refine (strW b g cap xs c.w cur h0 (by simpa using h3) hg hsz hle htk h63).mono fun e w' ⟨he, hw⟩ => ?_
          have hgo := hsf.own g (by simp)
          obtain ⟨r1, r2, r3⟩ := freeze_rest c.w.drew g xs.length
          have hl : c.le ⟨c.F, c.U, w'⟩ := by
            subst hw
            exact ⟨fun _ h => h, rfl, fun k hk => freeze_other (w := c.w.drew) (fun e => hk.elim (fun h => hgo.1 (e ▸ h)) (fun h => hgo.2.1 (e ▸ h))), by show _ ≤ (c.w.drew.freeze _ _).heap.size; rw [freeze_size]; exact Nat.le_refl _, r1, r2, r3⟩
          exact ⟨_, c.F, vstr ⟨xs.toArray⟩, [], he, hl, rfl, ⟨[], .nil, by simp, by simp, fun k hk => Nat.lt_of_lt_of_le (hsf.fro k hk) hl.size, hsf.dis⟩, rfl, rfl⟩⟩
end
end Go.Proofs.YtemfpennomelaaaDoor
