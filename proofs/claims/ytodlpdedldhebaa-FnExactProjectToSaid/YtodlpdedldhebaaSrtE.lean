/- What sort asks of reflectlite: ValueOf, Swapper, Len; sort.SliceStable of a list of frozen rows. Proved for this program; conditions: at most a million rows. -/
import Derived.Test.YtodlpdedldhebaaSrtS
import Derived.Lib.ReflectliteSwap
import Derived.Laws.Externs
import Derived.KernelRfl
namespace Go.Proofs.Ytodlpdedldhebaa
open Go Go.Proofs
set_option linter.unusedVariables false
section
variable {P : Program} {n : Nat} {φ : Slots} {S : List HP} {d : Option Tmp} {ty : TypeId} {ps : String} {af : Array Edge} {g : Option (Nat × Bool)}
theorem VOp.iface {t e k : Nat} [ht : IsSl P t e k] {x : Operand} {v : Value} (hx : opd φ x = some (vlit v)) : VOp P n φ S ⟨d, .makeInterface t x, ty, ps, af, g⟩ (vlit (.iface t v)) := by
  refine ⟨fun c a hf hs => ⟨.iface t v, fun w' hw' => ?_, rfl⟩⟩
  have h1 : a.eval x = v := hf.opd hx
  simp [execOp, h1, Instr.makeInterface, run_underlying ht.u]
instance {t : TypeId} : One (vlit (typeHandle P t)) := ⟨fun _ _ h => by cases h; rfl⟩
/-- that f is the model's entry e -/
abbrev ExtF (P : Program) (f : FuncId) (e : Array Value → Sem Value) : Prop := ∀ args w, (callFunc f args).run P w = ((e args).run P w).andThen fun v w' => .ok (.value v) w'
theorem EOp.valueOf {f t e : Nat} {i : TypeInfo} (he : ExtF P f (fun args => Extern.ReflectliteValue.unpack (args.getD 0 (.tuple #[])))) (hi : P.info? t = some i) (hd : i.desc = .slice e) {x : Operand} {s : Sv} {ts : Array TypeId}
    (hx : opd φ x = some (vlit (.iface t (vsv s)))) : EOp P n φ S ⟨d, .call ⟨.value (.func f), #[x], ts⟩, ty, ps, af, g⟩ (fun r S' => ∃ b, r = vagg [vlit (typeHandle P t), vptr b 0, vlit (.int .u64 151)] ∧ S' = hcells b [vlit (vsv s)] :: S) := by
  refine ⟨fun c a hf hs => ?_⟩
  have h1 : a.eval x = .iface t (vsv s) := hf.opd hx
  obtain ⟨hl, hs'⟩ := hs.new (k := 0) (o := .cells #[vsv s] t (0, 0)) (h := hcells c.w.heap.size [vlit (vsv s)]) (fun hl => ⟨rfl, ⟨_, _, newW_new, by simp⟩, cellsAt_row (vs := [vsv s]) newW_new (.cons rfl .nil)⟩)
  refine ⟨.agg #[typeHandle P t, .pointer (some ⟨c.w.heap.size, 0, none⟩), .int .u64 151], _, c.F, vagg [vlit (typeHandle P t), vptr c.w.heap.size 0, vlit (.int .u64 151)], _, ?_, hl, ⟨[typeHandle P t, .pointer (some ⟨c.w.heap.size, 0, none⟩), .int .u64 151], rfl, .cons rfl (.cons rfl (.cons rfl .nil))⟩, hs', _, rfl, rfl⟩
  have e1 : (execOp a.eval ⟨d, .call ⟨.value (.func f), #[x], ts⟩, ty, ps, af, g⟩).run P c.w = (callFunc f #[a.eval x]).run P c.w := by
    simp [execOp, resolve, Act.eval, Deferred.ofValue, invoke]
  rw [e1, he, h1]
  show Result.andThen ((Extern.ReflectliteValue.unpack (.iface t (.slice s.1 s.2.1 s.2.2))).run P c.w) _ = _
  rw [Lib.run_valueOf_slice t e i hi hd]
  rfl
theorem VOp.swapper {f t e : Nat} {i ie : TypeInfo} {ke k : Nat} (he : ExtF P f (Extern.ReflectliteSwapper.swapper "internal/reflectlite" (Extern.ReflectliteValue.valueError "Swapper"))) (hi : P.info? t = some i) (hd : i.desc = .slice e) (hie : P.info? e = some ie)
    (hke : ∀ w, (Extern.Rtype.kind e).run P w = .ok ke w) {x : Operand} {s : Sv} {ts : Array TypeId} (hf : P.funcs.findIdx? (·.name == "internal/reflectlite" ++ ".Swapper$" ++ toString (Lib.swapperK s.2.1 ie ke)) = some k)
    (hx : opd φ x = some (vlit (.iface t (vsv s)))) : VOp P n φ S ⟨d, .call ⟨.value (.func f), #[x], ts⟩, ty, ps, af, g⟩ (vlit (.func (.func k) #[] (if Lib.swapperK s.2.1 ie ke ≤ 2 then [] else [vsv s, typeHandle P e]).toArray)) := by
  refine ⟨fun c a hf' hs => ⟨_, fun w' hw' => ?_, rfl⟩⟩
  have h1 : a.eval x = .iface t (vsv s) := hf'.opd hx
  have e1 : (execOp a.eval ⟨d, .call ⟨.value (.func f), #[x], ts⟩, ty, ps, af, g⟩).run P w' = (callFunc f #[a.eval x]).run P w' := by
    simp [execOp, resolve, Act.eval, Deferred.ofValue, invoke]
  rw [e1, he, h1, Lib.run_swapper_slice t e i ie hi hd hie ke hke s.1 s.2.1 s.2.2 k hf w']
  show Result.ok _ _ = _
  split <;> rfl
theorem VOp.lenV {f t e : Nat} {i : TypeInfo} (he : ExtF P f (Extern.ReflectliteValue.method (Extern.ReflectliteValue.valueError "reflectlite.Value.Len" 0) Extern.ReflectliteValue.len)) (hi : P.info? t = some i) (hd : i.desc = .slice e) (hpk : P.packed t = false)
    {x : Operand} {s : Sv} {b : Nat} {ts : Array TypeId} (hx : opd φ x = some (vagg [vlit (typeHandle P t), vptr b 0, vlit (.int .u64 151)])) (hh : Has S (hcells b [vlit (vsv s)])) :
    VOp P n φ S ⟨d, .call ⟨.value (.func f), #[x], ts⟩, ty, ps, af, g⟩ (vint (s.2.1 : Int)) := by
  refine ⟨fun c a hf ⟨fs, hs⟩ => ⟨.int .i64 (s.2.1 : Int), fun w' hw' => ?_, rfl⟩⟩
  have h1 : a.eval x = .agg #[typeHandle P t, .pointer (some ⟨b, 0, none⟩), .int .u64 151] := by
    obtain ⟨vs, h2, h3⟩ := hf.opd hx
    cases h3 with
    | cons q1 h3 =>
      cases h3 with
      | cons q2 h3 =>
        cases h3 with
        | cons q3 h3 =>
          cases h3
          cases q1; cases q2; cases q3
          exact h2
  obtain ⟨fr, _, _, _, h3⟩ := hh.get hs.all
  obtain ⟨v, h4, h5⟩ := h3 0 _ rfl
  cases h5
  have h6 : w'.cell? ⟨b, 0, none⟩ = some (.slice s.1 s.2.1 s.2.2) := hw'.cell h4
  have e1 : (execOp a.eval ⟨d, .call ⟨.value (.func f), #[x], ts⟩, ty, ps, af, g⟩).run P w' = (callFunc f #[a.eval x]).run P w' := by
    simp [execOp, resolve, Act.eval, Deferred.ofValue, invoke]
  rw [e1, he, h1, Lib.run_valueLen_slice t e i hi hd hpk ⟨b, 0, none⟩ s.1 s.2.1 s.2.2 w' h6]
  rfl
end
theorem setCell_eq (P : Program) {w : World} {b i : Nat} {arr : Array Value} {tt : TypeId} {u : Value} (hb : w.heap[b]? = some (.cells arr tt (0, 0))) (hi : i < arr.size) (hu : u.oneCell' = true) :
    w.setCell ⟨b, i, none⟩ u = setW w b (arr.toList.set i u).toArray tt := by
  have hfit : i + [u].length ≤ arr.size := by simp; omega
  have hrun := run_put (P := P) (vs := [u]) hb hfit (by simpa using hu)
  have hfz : w.frozen? ⟨b, i, none⟩ = false := by simp [World.frozen?, hb]
  obtain ⟨v, hv⟩ : ∃ v, arr[i]? = some v := ⟨arr[i], Array.getElem?_eq_getElem hi⟩
  have hcell : w.cell? ⟨b, i, none⟩ = some v := by rw [cell_row hb]; exact hv
  have hrun2 : (storeCells ⟨b, i, none⟩ [u]).run P w = .ok () (w.setCell ⟨b, i, none⟩ u) := by
    simp [storeCells, run_store P _ _ u _ hu, Addr.add_zero', hcell, hfz]
  rw [hrun] at hrun2
  injection hrun2 with _ hw
  rw [← hw, List.set_eq_take_append_cons_drop, if_pos (by simpa using hi)]
  simp
theorem Rows.get {c : Ctx} {α : Type} {t : TR α} {xs : List α} {vss : List (List Value)} {fss : List (List Nat)} (h : Rows c t xs vss fss) : vss.length = xs.length ∧ fss.length = xs.length ∧ ∀ (k : Nat) (x : α) (vs : List Value) (f : List Nat), xs[k]? = some x → vss[k]? = some vs → fss[k]? = some f → t.p c x vs f := by
  induction h with
  | nil => exact ⟨rfl, rfl, fun k x vs f h => by simp at h⟩
  | @cons x vs f xs vss fss hp _ ih =>
    refine ⟨by simp [ih.1], by simp [ih.2.1], fun k x' vs' f' h1 h2 h3 => ?_⟩
    cases k with
    | zero => simp at h1 h2 h3; subst h1; subst h2; subst h3; exact hp
    | succ k => exact ih.2.2 k x' vs' f' (by simpa using h1) (by simpa using h2) (by simpa using h3)
theorem Rows.mk {c : Ctx} {α : Type} {t : TR α} : ∀ {xs : List α} {vss : List (List Value)} {fss : List (List Nat)}, vss.length = xs.length → fss.length = xs.length → (∀ (k : Nat) (x : α) (vs : List Value) (f : List Nat), xs[k]? = some x → vss[k]? = some vs → fss[k]? = some f → t.p c x vs f) → Rows c t xs vss fss
  | [], [], [], _, _, _ => .nil
  | x :: xs, vs :: vss, f :: fss, h1, h2, h => .cons (h 0 x vs f rfl rfl rfl) (Rows.mk (by simpa using h1) (by simpa using h2) fun k x vs f q1 q2 q3 => h (k + 1) x vs f (by simpa using q1) (by simpa using q2) (by simpa using q3))
  | [], _ :: _, _, h1, _, _ => by simp at h1
  | _ :: _, [], _, h1, _, _ => by simp at h1
  | [], [], _ :: _, _, h2, _ => by simp at h2
  | _ :: _, _ :: _, [], _, h2, _ => by simp at h2
theorem swap_get {α : Type} [Inhabited α] {xs : List α} {i j k : Nat} {x : α} (hi : i < xs.length) (hj : j < xs.length) (h : (swapL xs i j)[k]? = some x) : xs[if k = j then i else if k = i then j else k]? = some x := by
  rw [swapL, List.getElem?_set, List.getElem?_set] at h
  by_cases h1 : k = j
  · subst h1
    rw [if_pos rfl, if_pos (by simpa using hj)] at h
    rw [if_pos rfl, ← h, at_eq hi, List.getElem?_eq_getElem hi]
  · rw [if_neg h1]
    rw [if_neg (fun e => h1 e.symm)] at h
    by_cases h2 : k = i
    · subst h2
      rw [if_pos rfl] at h ⊢
      rw [if_pos hi] at h
      rw [← h, at_eq hj, List.getElem?_eq_getElem hj]
    · rw [if_neg h2]
      rw [if_neg (fun e => h2 e.symm)] at h
      exact h
theorem flat_one {α : Type} {zss : List (List α)} {k : Nat} {y : List α} {u : α} (h : ∀ y ∈ zss, y.length = 1) (hk : zss[k]? = some y) (hy : y = [u]) : zss.flatten[k]? = some u := by
  subst hy
  induction zss generalizing k with
  | nil => simp at hk
  | cons z zss ih =>
    obtain ⟨w, rfl⟩ := List.length_eq_one_iff.1 (h z (by simp))
    cases k with
    | zero => simp at hk; subst hk; rfl
    | succ k =>
      have := ih (k := k) (fun y hy => h y (by simp [hy])) (by simpa using hk)
      simpa using this
/-- the swapper's closure exchanges two rows of an owned list -/
theorem swp_rows {P : Program} {f e : Nat} {ie : TypeInfo} {gg : Bool} (he : ExtF P f (Extern.ReflectliteSwapper.swap gg)) (hie : P.info? e = some ie) (hs1 : ie.size = 1) (hagg : ∀ w, (isAgg e).run P w = .ok false w) (t : TR (List Int)) (hk : t.k = 1) (s : Sv) (G : HP) (m : Nat) :
    Swp P f [vsv s, typeHandle P e] (fun xs => hstar (hsl t (vsv s) xs) G) m := by
  refine ⟨fun xs i j c S hl hi hj hij hs => ?_⟩
  obtain ⟨fs, hs0⟩ := hs
  obtain ⟨fs1, hsf⟩ := SEnt.unstar c fs hs0
  obtain ⟨f1, f0, f2, rfl, hA, hp, hB⟩ := SHf.middle (A := []) hsf
  cases hA
  rcases hp with ⟨rfl, _, _⟩ | ⟨b, cap, arr, tt, vss, fss, e1, hb, hsz, hcap, hr, htk, rfl⟩
  · simp at hl; omega
  · obtain ⟨hv1, hv2, hv3⟩ := hr.get
    rw [hk, Nat.mul_one] at hsz htk
    -- every element is one cell
    have hcells : ∀ k (hk' : k < xs.length), ∃ u, vss[k]? = some [u] ∧ arr[k]? = some u ∧ u.oneCell' = true := fun k hk' => by
      obtain ⟨v1, vs, v2, g1, g, g2, q1, q2, q3, q4, q5, _⟩ := hr.at k _ (List.getElem?_eq_getElem hk')
      have q6 := t.len q5
      rw [hk] at q6 q4
      obtain ⟨u, rfl⟩ := List.length_eq_one_iff.1 q6
      refine ⟨u, by rw [q1, ← q3, List.getElem?_append_right (Nat.le_refl _), Nat.sub_self]; rfl, ?_, t.one q5 u (by simp)⟩
      have : (arr.toList.take xs.length)[k]? = some u := by
        rw [htk, q1, List.flatten_append, List.getElem?_append_right (by omega), q4, List.flatten_cons, Nat.mul_one, Nat.sub_self]; rfl
      rw [List.getElem?_take, if_pos hk'] at this
      simpa using this
    obtain ⟨u, hu1, hu2, hu3⟩ := hcells i (by omega)
    obtain ⟨u2, hw1, hw2, hw3⟩ := hcells j (by omega)
    have hsz2 : xs.length ≤ arr.size := by omega
    have e2 := setCell_eq P (i := i) (u := u2) hb (by omega) hw3
    have hlt : b < c.w.heap.size := (Array.getElem?_eq_some_iff.1 hb).1
    have hb2 : (setW c.w b (arr.toList.set i u2).toArray tt).heap[b]? = some (.cells (arr.toList.set i u2).toArray tt (0, 0)) := setW_at hlt
    have e3 := setCell_eq P (i := j) (u := u) hb2 (by simp; omega) hu3
    generalize hW : setW (setW c.w b (arr.toList.set i u2).toArray tt) b ((arr.toList.set i u2).toArray.toList.set j u).toArray tt = W at e3
    have hWo : ∀ k, k ≠ b → W.heap[k]? = c.w.heap[k]? := fun k hk => by rw [← hW, setW_other hk, setW_other hk]
    have hWs : W.heap.size = c.w.heap.size := by rw [← hW, setW_size, setW_size]
    have hWb : W.heap[b]? = some (.cells ((arr.toList.set i u2).set j u).toArray tt (0, 0)) := by rw [← hW]; exact setW_at (by rw [setW_size]; exact hlt)
    have hbo := hsf.own b (by simp)
    have hle : c.le ⟨c.F, c.U, W⟩ := ⟨fun _ h => h, rfl, fun k hk' => hWo k (fun e => hk'.elim (fun h => hbo.1 (e ▸ h)) (fun h => hbo.2.1 (e ▸ h))), by rw [hWs]; exact Nat.le_refl _, by rw [← hW]; rfl, by rw [← hW]; rfl, by rw [← hW]; rfl⟩
    have hnd : (b :: fss.flatten).Nodup := by
      have := hsf.nodup
      simp only [List.nil_append, List.flatten_cons, List.nodup_append] at this
      exact this.1
    have hperm : (b :: fss.flatten).Perm (b :: (swapL fss i j).flatten) := .cons b (swapL_perm (by omega) (by omega)).flatten
    have hs' := hsf.replace (h' := hsl t (vsv s) (swapL xs i j)) (f' := b :: (swapL fss i j).flatten) hle .nil hB (fun _ => .rfl) (fun k _ hk' => hWo k (fun e => by subst e; simp at hk')) (by
        intro k hk'
        have hk2 := hperm.mem_iff.2 hk'
        refine ⟨.inl hk2, ?_⟩
        have := (hsf.own k (by simp only [List.nil_append, List.flatten_cons, List.mem_append]; exact .inl hk2)).2.2
        rw [hWs]; exact this) (hperm.nodup_iff.1 hnd) (by
      refine .inr ⟨b, cap, _, tt, swapL vss i j, swapL fss i j, by rw [e1, swapL_length], hWb, by simp [hk, hsz], by rw [swapL_length]; exact hcap, ?_, ?_, rfl⟩
      · refine Rows.mk (by rw [swapL_length, swapL_length, hv1]) (by rw [swapL_length, swapL_length, hv2]) fun k x vs f q1 q2 q3 => ?_
        have r1 := swap_get (by omega) (by omega) q1
        have r2 := swap_get (by omega) (by omega) q2
        have r3 := swap_get (by omega) (by omega) q3
        refine t.mono hle.v (fun y hy => hWo y (fun e => ?_)) (hv3 _ x vs f r1 r2 r3)
        subst e
        exact (List.nodup_cons.1 hnd).1 (List.mem_flatten.2 ⟨f, List.mem_of_getElem? r3, hy⟩)
      · rw [hk, Nat.mul_one, swapL_length]
        apply List.ext_getElem?
        intro k
        by_cases hkn : k < xs.length
        · have hlk : k < (swapL vss i j).length := by rw [swapL_length, hv1]; exact hkn
          have r2 := swap_get (by omega) (by omega) (List.getElem?_eq_getElem hlk)
          obtain ⟨w, p1, p2, p3⟩ := hcells (if k = j then i else if k = i then j else k) (by split; omega; split <;> omega)
          rw [p1] at r2
          injection r2 with r2
          have hsg : ∀ y ∈ swapL vss i j, y.length = 1 := fun y hy => by
            obtain ⟨v1, vs, v2, g1, g, g2, q1, q2, q3, q4, q5, _⟩ := hr.at 0 _ (List.getElem?_eq_getElem (by omega))
            have hy' := (swapL_perm (xs := vss) (i := i) (j := j) (by omega) (by omega)).mem_iff.2 hy
            obtain ⟨k2, hk2⟩ := List.mem_iff_getElem?.1 hy'
            obtain ⟨w2, p4, _, _⟩ := hcells k2 (by have := (List.getElem?_eq_some_iff.1 hk2).1; omega)
            rw [p4] at hk2; injection hk2 with hk2
            rw [← hk2]; rfl
          rw [flat_one hsg (List.getElem?_eq_getElem hlk) r2.symm, List.getElem?_take, if_pos hkn, ← p2]
          simp only [List.getElem?_set]
          by_cases c1 : k = j
          · subst c1
            rw [if_pos rfl, if_pos rfl, if_pos (by simp; omega)]; exact hu2.symm
          · rw [if_neg (fun e => c1 e.symm), if_neg c1]
            by_cases c2 : k = i
            · subst c2
              rw [if_pos rfl, if_pos rfl, if_pos (by simp; omega)]; exact hw2.symm
            · rw [if_neg (fun e => c2 e.symm), if_neg c2]; simp
        · rw [List.getElem?_eq_none (by simp; omega), List.getElem?_eq_none]
          have hf1 : (swapL vss i j).flatten.length = vss.flatten.length := ((swapL_perm (xs := vss) (i := i) (j := j) (by omega) (by omega)).flatten.length_eq).symm
          rw [hf1, ← htk]; simp; omega)
    obtain ⟨fs4, hsE⟩ := SEnt.star _ _ hs'
    refine ⟨.tuple #[], W, c.F, ?_, hle, ⟨fs4, hsE⟩⟩
    rw [he]
    show Result.andThen ((Extern.ReflectliteSwapper.swap gg #[.int .i64 (i : Int), .int .i64 (j : Int), vsv s, typeHandle P e]).run P c.w) _ = _
    have hz : ∀ k, c.w.frozen? ⟨b, k, none⟩ = false := fun k => by simp [World.frozen?, hb]
    have := Lib.run_swap_one (P := P) gg e ie hie hs1 hagg b 0 xs.length cap i j (by omega) (by omega) u u2 hu3 hw3 c.w (by rw [Nat.zero_add, cell_row hb]; exact hu2) (by rw [Nat.zero_add, cell_row hb]; exact hw2) (hz _) (hz _)
    rw [e1, this, Nat.zero_add, Nat.zero_add, e2, e3]
    rfl
theorem extV : ExtF Try.prog 144 (fun args => Extern.ReflectliteValue.unpack (args.getD 0 (.tuple #[]))) :=
  run_callFunc_extern Try.func144 (by kernel_rfl) (by kernel_rfl) (by kernel_rfl) (by kernel_rfl)
theorem extS : ExtF Try.prog 145 (Extern.ReflectliteSwapper.swapper "internal/reflectlite" (Extern.ReflectliteValue.valueError "Swapper")) :=
  run_callFunc_extern Try.func145 (by kernel_rfl) (by kernel_rfl) (by kernel_rfl) (by kernel_rfl)
theorem extL : ExtF Try.prog 147 (Extern.ReflectliteValue.method (Extern.ReflectliteValue.valueError "reflectlite.Value.Len" 0) Extern.ReflectliteValue.len) :=
  run_callFunc_extern Try.func147 (by kernel_rfl) (by kernel_rfl) (by kernel_rfl) (by kernel_rfl)
theorem ext9 : ExtF Try.prog 162 (Extern.ReflectliteSwapper.swap false) :=
  run_callFunc_extern Try.func162 (by kernel_rfl) (by kernel_rfl) (by kernel_rfl) (by kernel_rfl)
theorem infoSS : Try.prog.info? 22 = some Try.t22 := by kernel_rfl
theorem infoS : Try.prog.info? 40 = some Try.t40 := by kernel_rfl
theorem packSS : Try.prog.packed 22 = false := by kernel_rfl
/-- which of the swapper's functions -/
def swpF (n : Nat) : FuncId := if n = 0 then 154 else if n = 1 then 155 else 162
noncomputable def swpV (s : Sv) : List Value := if s.2.1 = 0 then [] else if s.2.1 = 1 then [] else [vsv s, typeHandle Try.prog 40]
theorem swpK (n : Nat) : Lib.swapperK n Try.t40 23 = if n = 0 then 1 else if n = 1 then 2 else 9 := by
  match n with
  | 0 => rfl
  | 1 => rfl
  | n + 2 =>
    rw [if_neg (by omega), if_neg (by omega)]
    have h0 : (n + 2 == 0) = false := by simp
    have h1 : (n + 2 == 1) = false := by simp
    unfold Lib.swapperK
    rw [h0, h1]
    decide
theorem swpIdx (n : Nat) : Try.prog.funcs.findIdx? (·.name == "internal/reflectlite" ++ ".Swapper$" ++ toString (Lib.swapperK n Try.t40 23)) = some (swpF n) := by
  rw [swpK, swpF]
  split
  · kernel_rfl
  · split
    · kernel_rfl
    · kernel_rfl
theorem swpVal (s : Sv) : (if Lib.swapperK s.2.1 Try.t40 23 ≤ 2 then [] else [vsv s, typeHandle Try.prog 40]) = swpV s := by
  rw [swpK, swpV]
  split
  · rfl
  · split <;> rfl
theorem swpS (s : Sv) (G : HP) : Swp Try.prog (swpF s.2.1) (swpV s) (fun xs => hstar (hsl (tS tInt) (vsv s) xs) G) s.2.1 := by
  by_cases h0 : s.2.1 = 0
  · exact ⟨fun xs i j c S hl hi hj hij hs => by omega⟩
  · by_cases h1 : s.2.1 = 1
    · exact ⟨fun xs i j c S hl hi hj hij hs => by omega⟩
    · rw [swpF, swpV, if_neg h0, if_neg h0, if_neg h1, if_neg h1]
      exact swp_rows ext9 infoS rfl Try.isAgg40 (tS tInt) rfl s G _
end Go.Proofs.Ytodlpdedldhebaa
