/- Projections of relations: spec.l8At, l13Project, ProjectRelation, ReverseRelation and impl's: the same answers. Proved for this program; conditions: lengths below 2^42. -/
import Derived.Test.YtiifdhdhjioefaaRelOf
import Derived.Test.YtiifdhdhjioefaaRowFn
namespace Go.Proofs.Ytiifdhdhjioefaa
open Go Go.Proofs
set_option linter.unusedVariables false
theorem comp_len (f g : List Int) : (comp f g).length = f.length := by simp [comp]
theorem prj_len (p : List Int) (xs : List (List Int)) : ∀ u ∈ xs.map (comp p), u.length = p.length := fun u hu => by
  obtain ⟨t, _, rfl⟩ := List.mem_map.1 hu
  exact comp_len p t
theorem putF_map {f : List Int → List Int} {xs : List (List Int)} {m : Nat} (h : m < xs.length) : putF ((xs.map f).take (m + 1)) = putL (putF ((xs.map f).take m)) (f xs[m]) := by
  rw [putF_snoc (by simpa using h), List.getElem_map]
theorem map_snoc {f : List Int → List Int} {xs : List (List Int)} {m : Nat} (h : m < xs.length) : (xs.map f).take (m + 1) = (xs.map f).take m ++ [f xs[m]] := by
  rw [List.take_add_one, List.getElem?_eq_getElem (by simpa using h), List.getElem_map]; rfl
theorem elB_mem {a : Int} {p : List Int} (h : elB a p = true) : ∀ v ∈ p, 0 ≤ v ∧ v < a := fun v hv => by
  rw [elB, List.all_eq_true] at h
  simpa using h v hv
set_option maxRecDepth 10000 in
theorem l8At_c (t p : List Int) (hp : p.length ≤ 1048576) (hv : ∀ v ∈ p, 0 ≤ v ∧ v < t.length) :
    Spec Try.prog 102 [vsl 1 (fun x : Int => [vint x]) t, vsl 1 (fun x : Int => [vint x]) p] [] (fun r S' => ∃ s : Sv, r = vlit (vsv s) ∧ S' = [hsl tInt (vsv s) (comp p t)]) := by
  have hcl := comp_len p t
  refine Spec.of_run2 (n := 25) Try.func102 rfl Try.results102 Try.ntmps102 rfl ?_
  repeat' (first | (with_reducible refine RL.done ?_) | (with_reducible refine RL.wanted ?_ ?_; exact rfl) | ((with_reducible show RH _ _ _ ⟨some 7, .buildSlice _ _ _, _, _, _, _⟩ _ _ _ _); refine RH.eff rfl rfl (EOpS.e (EOpS.slit (fun x : Int => [vint x]) _ (fun _ _ => rfl) (by repeat (first | exact Elts.nil | (apply Elts.cons; exact rfl; exact CellsOf.one))) rfl rfl)) ?_; rintro _ _ ⟨b7, rfl, rfl⟩) | ((with_reducible show RH _ _ _ _ _ _ _ _); refine RH.val (hK := ?_)) | (with_reducible first | refine Run.seq ?_ | refine Run.region ?_ | refine Run.block ?_) | (with_reducible refine seqN (K := Run _ _ _ _) ?_))
  refine Run.sent (T := [hsl tInt (vsv (some ⟨b7, 0, none⟩, 0, 0)) []]) (SEnt.packNil tInt rfl) ?_
  refine Run.loop (α := Nat × Sv) (fun z => [(0, vsl 1 (fun x : Int => [vint x]) t), (1, vsl 1 (fun x : Int => [vint x]) p), (5, vlit (vsv z.2)), (6, vint (z.1 : Int))]) (fun z => [hsl tInt (vsv z.2) ((comp p t).take z.1)]) (fun z => z.1 ≤ p.length) (fun z => p.length - z.1) (0, (some ⟨b7, 0, none⟩, 0, 0)) (Nat.zero_le _) (Ent.of (by dsimp only; exact slA) (.cons .head (by simp) chA)) ?_
  rintro ⟨j, s⟩ hj
  (try dsimp only at hj ⊢)
  have hle2 : ((comp p t).take j).length = j := by rw [List.length_take]; omega
  rcases Nat.lt_or_eq_of_le hj with h9 | h9
  · have hx := hv _ (List.getElem_mem h9)
    have hd : (comp p t).take (j + 1) = (comp p t).take j ++ [t[(p[j]).toNat]'(by omega)] := by
      rw [List.take_add_one, List.getElem?_eq_getElem (by omega)]
      simp [comp, List.getD, show (p[j]).toNat < t.length by omega]
    repeat' (first | (with_reducible refine RL.done ?_) | (with_reducible refine RL.wanted ?_ ?_; exact rfl) | ((with_reducible show RH _ _ _ ⟨some 22, .buildSlice _ _ _, _, _, _, _⟩ _ _ _ _); refine RH.eff rfl rfl (EOpS.e (EOpS.slit (fun x : Int => [vint x]) _ (fun _ _ => rfl) (by repeat (first | exact Elts.nil | (apply Elts.cons; exact rfl; exact CellsOf.one))) rfl rfl)) ?_; rintro _ _ ⟨b22, rfl, rfl⟩) | ((with_reducible show RH _ _ _ ⟨_, .call ⟨.builtin .append, _, _⟩, _, _, _, _⟩ _ _ _ _); (refine RH.appI rfl rfl rfl (by repeat (first | exact Pick.nil | (apply Pick.cons; (with_reducible repeat (first | exact Rem.head | apply Rem.tail))))) (by first | omega | (simp; omega)) (by first | omega | (simp; omega)) ?_); rintro _ _ ⟨s, rfl, rfl⟩) | ((with_reducible show RH _ _ _ _ _ _ _ _); refine RH.val (hK := ?_)) | (with_reducible first | refine Run.seq ?_ | refine Run.region ?_ | refine Run.block ?_ | refine Run.skip ?_ | refine Run.exit ?_ | refine Run.ret ?_) | (with_reducible show Run _ _ (.cond _ _ _) _ _ _; refine Run.condD rfl (fun h => ?_) (fun h => ?_)) | (with_reducible first | refine seqN (K := Run _ _ _ _) ?_ | refine seqE ?_ | refine blockN ?_ | refine blockE ?_))
    all_goals first
      | (exfalso; omega)
      | (with_reducible refine seqN ?_
         exact ⟨(j + 1, _), by dsimp only; omega, by dsimp only; omega, Ent.of (by dsimp only; exact slA) (by dsimp only; rw [hd]; exact chA)⟩)
  · subst h9
    repeat' (first | (with_reducible refine RL.done ?_) | (with_reducible refine RL.wanted ?_ ?_; exact rfl) | ((with_reducible show RH _ _ _ ⟨some 22, .buildSlice _ _ _, _, _, _, _⟩ _ _ _ _); refine RH.eff rfl rfl (EOpS.e (EOpS.slit (fun x : Int => [vint x]) _ (fun _ _ => rfl) (by repeat (first | exact Elts.nil | (apply Elts.cons; exact rfl; exact CellsOf.one))) rfl rfl)) ?_; rintro _ _ ⟨b22, rfl, rfl⟩) | ((with_reducible show RH _ _ _ _ _ _ _ _); refine RH.val (hK := ?_)) | (with_reducible first | refine Run.seq ?_ | refine Run.region ?_ | refine Run.block ?_ | refine Run.skip ?_ | refine Run.exit ?_ | refine Run.ret ?_) | (with_reducible show Run _ _ (.cond _ _ _) _ _ _; refine Run.condD rfl (fun h => ?_) (fun h => ?_)) | (with_reducible first | refine seqN (K := Run _ _ _ _) ?_ | refine seqE ?_ | refine blockE ?_))
    all_goals first
      | (exfalso; omega)
      | (refine ⟨eA, _, [hsl tInt (vsv s) (comp p t)], resA, ?_, ?_⟩
         · exact SEnt.ch (.cons .head (by rw [← hcl, List.take_length]) .nil)
         · exact ⟨s, rfl, rfl⟩)
set_option maxRecDepth 10000 in
set_option maxHeartbeats 1000000 in
theorem l13Project_c (a q : Int) (xs : List (List Int)) (p : List Int) (hq : q = p.length) (hl : xs.length ≤ 1000000) (hp : p.length ≤ 1000000) (hv : ∀ t ∈ xs, ∀ v ∈ p, 0 ≤ v ∧ v < t.length) :
    Spec Try.prog 96 [vagg [vint a, vsl 1 (fun t : List Int => [vsl 1 (fun x : Int => [vint x]) t]) xs], vsl 1 (fun x : Int => [vint x]) p] [] (fun r S' => ∃ s : Sv, r = vagg [vint q, vlit (vsv s)] ∧ S' = [hsl (tS tInt) (vsv s) (putF (xs.map (comp p)))]) := by
  subst hq
  refine Spec.of_run2 (n := 30) Try.func96 rfl Try.results96 Try.ntmps96 rfl ?_
  repeat' (first | (with_reducible refine RL.done ?_) | (with_reducible refine RL.wanted ?_ ?_; exact rfl) | ((with_reducible show RH _ _ _ ⟨some 2, .box _ _, _, _, _, _⟩ _ _ _ _); (refine RH.boxAgg rfl rfl ?_; rintro _ _ ⟨b2, rfl, rfl⟩)) | ((with_reducible show RH _ _ _ ⟨some 4, .alloc _, _, _, _, _⟩ _ _ _ _); refine RH.alloc rfl ?_; rintro _ _ ⟨b4, rfl, rfl⟩) | ((with_reducible show RH _ _ _ ⟨some 9, .buildSlice _ _ _, _, _, _, _⟩ _ _ _ _); (refine RH.eff rfl rfl (EOpS.e (EOpS.slitV (by ((repeat (first | exact Elts.nil | apply Elts.one1 rfl | apply Elts.agg2 rfl)); done)) (by simp) rfl rfl)) ?_; rintro _ _ ⟨b9, rfl, rfl⟩)) | ((with_reducible show RH _ _ _ ⟨some 5, .alloc _, _, _, _, _⟩ _ _ _ _); refine RH.alloc rfl ?_; rintro _ _ ⟨b5, rfl, rfl⟩) | ((with_reducible show RH _ _ _ _ _ _ _ _); first | refine RH.val (hK := ?_) | refine RH.upd (hK := ?_)) | (with_reducible first | refine Run.seq ?_ | refine Run.region ?_ | refine Run.block ?_) | (with_reducible refine seqN (K := Run _ _ _ _) ?_))
  refine Run.sent (T := [hsl (tS tInt) (vsv (some ⟨b9, 0, none⟩, 0, 0)) [], hcells b5 [vint (p.length : Int), vsb b9 0 0], hcells b4 [vint 0, vlit (.slice none 0 0)], hcells b2 [vint a, vsl 1 (fun t : List Int => [vsl 1 (fun x : Int => [vint x]) t]) xs]])
    ((SEnt.pick (.cons (.tail .head) .nil)).trans (SEnt.packNil (tS tInt) rfl)) ?_
  refine Run.loop (α := Nat × Sv) (fun z => [(1, vsl 1 (fun x : Int => [vint x]) p), (2, vptr b2 0), (4, vptr b4 0), (5, vptr b5 0), (6, vint (z.1 : Int))])
    (fun z => [hsl (tS tInt) (vsv z.2) (putF ((xs.map (comp p)).take z.1)), hcells b5 [vint (p.length : Int), vlit (vsv z.2)], hcells b4 [vint 0, vlit (.slice none 0 0)], hcells b2 [vint a, vsl 1 (fun t : List Int => [vsl 1 (fun x : Int => [vint x]) t]) xs]])
    (fun z => z.1 ≤ xs.length) (fun z => xs.length - z.1) (0, (some ⟨b9, 0, none⟩, 0, 0)) (Nat.zero_le _) (Ent.of slA .refl) ?_
  rintro ⟨m, s⟩ hm
  dsimp only at hm ⊢
  have hln : ∀ u ∈ (xs.map (comp p)).take m, u.length = p.length := fun u hu => prj_len p xs u (List.mem_of_mem_take hu)
  have hstr := (putF_str hln).1
  have hlen := putF_len hln
  have hpl := putF_le ((xs.map (comp p)).take m)
  have hle2 : ((xs.map (comp p)).take m).length ≤ xs.length := by rw [List.length_take, List.length_map]; omega
  rcases Nat.lt_or_eq_of_le hm with h9 | h9
  · repeat' (first | (with_reducible first | refine RL.done ?_ | refine RD.app1 ?_) | (with_reducible refine RL.wanted ?_ ?_; exact rfl) | ((with_reducible show Run _ _ (.region 5 _ true) _ _ _); refine Run.regionD (fun i => i == 9 || i == 11) rfl ?_; change RD _ _ _ _ _ _ 12 (dm 12 0) _ _) | ((with_reducible show RD _ _ 5 _ _ _ _ _ _ _); first | ((with_reducible show RD _ _ _ _ _ _ _ (dm 12 0) _ _); refine RD.tk 0 (dm 12 3586) (dm 12 1) (hK := ?_)) | ((with_reducible show RD _ _ _ _ _ _ _ (dm 12 1) _ _); refine RD.tk 1 (dm 12 3584) (dm 12 3) (hK := ?_)) | ((with_reducible show RD _ _ _ _ _ _ _ (dm 12 3) _ _); refine RD.tk 2 (dm 12 3944) (dm 12 7) (hK := ?_)) | ((with_reducible show RD _ _ _ _ _ _ _ (dm 12 7) _ _); refine RD.tk 3 (dm 12 3936) (dm 12 15) (hK := ?_)) | ((with_reducible show RD _ _ _ _ _ _ _ (dm 12 15) _ _); refine RD.tk 4 (dm 12 3936) (dm 12 31) (hK := ?_)) | ((with_reducible show RD _ _ _ _ _ _ _ (dm 12 31) _ _); refine RD.tk 5 (dm 12 3904) (dm 12 63) (hK := ?_)) | ((with_reducible show RD _ _ _ _ _ _ _ (dm 12 63) _ _); refine RD.tk 6 (dm 12 3840) (dm 12 127) (hK := ?_)) | ((with_reducible show RD _ _ _ _ _ _ _ (dm 12 127) _ _); refine RD.tk 7 (dm 12 3840) (dm 12 255) (hK := ?_)) | ((with_reducible show RD _ _ _ _ _ _ _ (dm 12 255) _ _); refine RD.a1 8 ?_) | ((with_reducible show RD _ _ _ _ _ _ _ (dm 12 511) _ _); refine RD.a1 9 ?_) | ((with_reducible show RD _ _ _ _ _ _ _ (dm 12 1023) _ _); refine RD.tk 10 (dm 12 2048) (dm 12 2047) (hK := ?_)) | ((with_reducible show RD _ _ _ _ _ _ _ (dm 12 2047) _ _); refine RD.a1 11 ?_) | ((with_reducible show RD _ _ _ _ _ _ 0 _ _ _); refine RD.done (by kernel_rfl) ?_)) | ((with_reducible show RO _ _ 5 _ _ _ _ _ _ _ _); first | ((with_reducible show RO _ _ _ _ _ _ _ (dm 12 255) 8 _ _); (refine RO.cP (dm 12 511) Try.call102 ?_; refine ⟨_, l8At_c xs[m] p (by omega) (hv _ (List.getElem_mem h9)), ?_⟩; rintro _ _ ⟨s1, rfl, rfl⟩)) | ((with_reducible show RO _ _ _ _ _ _ _ (dm 12 511) 9 _ _); (refine RO.h (dm 12 1023) ?_; show RH _ _ _ ⟨_, _, _, _, _, _⟩ _ _ _ _)) | ((with_reducible show RO _ _ _ _ _ _ _ (dm 12 2047) 11 _ _); (refine RO.h (dm 12 4095) ?_; show RH _ _ _ ⟨_, _, _, _, _, _⟩ _ _ _ _))) | ((with_reducible show RH _ _ _ ⟨_, .call ⟨.value (.func 90), _, _⟩, _, _, _, _⟩ _ _ _ _); refine RH.cW Try.call90 ?_; refine ⟨_, _, _, (by repeat (first | exact Pick.nil | (apply Pick.cons; (with_reducible repeat (first | exact Rem.head | apply Rem.tail))))), l8Put_c (putF ((xs.map (comp p)).take m)) (comp p xs[m]) s s1 p.length hstr hlen (comp_len p xs[m]) (by omega) (by omega), ?_⟩; rintro _ _ ⟨s2, rfl, rfl⟩; refine RL.nm ?_) | ((with_reducible show RH _ _ _ _ _ _ _ _); first | refine RH.val (hK := ?_) | refine RH.upd (hK := ?_)) | (with_reducible first | refine Run.seq ?_ | refine Run.region ?_ | refine Run.block ?_ | refine Run.skip ?_ | refine Run.exit ?_ | refine Run.ret ?_) | (with_reducible show Run _ _ (.cond _ _ _) _ _ _; refine Run.condD rfl (fun h => ?_) (fun h => ?_)) | (with_reducible first | refine seqN (K := Run _ _ _ _) ?_ | refine seqE ?_ | refine blockN ?_ | refine blockE ?_))
    all_goals first
      | (exfalso; omega)
      | (with_reducible refine seqN ?_
         exact ⟨(m + 1, _), by dsimp only; omega, by dsimp only; omega, Ent.of (by dsimp only; exact slA) (by dsimp only; rw [putF_map h9]; exact chA)⟩)
  · subst h9
    repeat' (first | (with_reducible refine RL.done ?_) | (with_reducible refine RL.wanted ?_ ?_; exact rfl) | ((with_reducible show RH _ _ _ _ _ _ _ _); first | refine RH.val (hK := ?_) | refine RH.upd (hK := ?_)) | (with_reducible first | refine Run.seq ?_ | refine Run.region ?_ | refine Run.block ?_ | refine Run.skip ?_ | refine Run.exit ?_ | refine Run.ret ?_) | (with_reducible show Run _ _ (.cond _ _ _) _ _ _; refine Run.condD rfl (fun h => ?_) (fun h => ?_)) | (with_reducible first | refine seqN (K := Run _ _ _ _) ?_ | refine seqE ?_ | refine blockE ?_))
    all_goals first
      | (exfalso; omega)
      | (refine ⟨eA, _, [hsl (tS tInt) (vsv s) (putF (xs.map (comp p)))], resA, ?_, ?_⟩
         · exact SEnt.ch (.cons .head (by rw [List.take_of_length_le (by simp)]) .nil)
         · exact ⟨s, rfl, rfl⟩)
def prjOk (n a : Int) (xs : List (List Int)) (p : List Int) : Bool := relOk n a xs && decide (1 ≤ p.length ∧ p.length ≤ 3) && elB a p
theorem prjOk_at {n a : Int} {xs : List (List Int)} {p : List Int} (h : prjOk n a xs p = true) : relOk n a xs = true ∧ (1 ≤ p.length ∧ p.length ≤ 3) ∧ elB a p = true := by
  simp only [prjOk, Bool.and_eq_true, decide_eq_true_eq] at h; exact ⟨h.1.1, h.1.2, h.2⟩
theorem rel_many {n a : Int} {xs : List (List Int)} (h : relOk n a xs = true) : xs.length ≤ 512 := by
  obtain ⟨hn, hB⟩ := relOk_rel' h
  have ha := relB_ar hB
  rw [relB, Bool.and_eq_true] at hB
  have h1 := relB_len (by omega) (by omega) hB.2
  have h2 := pw_512' n hn.1 hn.2 a.toNat (by omega)
  omega
set_option maxRecDepth 10000 in
set_option maxHeartbeats 1000000 in
theorem specPrj_c (n a : Int) (xs : List (List Int)) (p : List Int) (hl : xs.length ≤ 4398046511104) (hr : ∀ t ∈ xs, t.length ≤ 4611686018427387904) (hp : p.length ≤ 4398046511104) :
    Spec Try.prog 29 [vint n, vagg [vint a, vsl 1 (fun t : List Int => [vsl 1 (fun x : Int => [vint x]) t]) xs], vsl 1 (fun x : Int => [vint x]) p] [] (RelRes (prjOk n a xs p) p.length (putF (xs.map (comp p)))) := by
  refine Spec.of_run2 (n := 29) Try.func29 rfl Try.results29 Try.ntmps29 rfl ?_
  by_cases hg : prjOk n a xs p = true
  · obtain ⟨h1, h2, h3⟩ := prjOk_at hg
    have hB := (relOk_rel' h1).2
    have ha := relB_ar hB
    have hlen := relB_len2 hB
    have hm := rel_many h1
    have hv : ∀ t ∈ xs, ∀ v ∈ p, 0 ≤ v ∧ v < t.length := fun t ht v hv => by
      have := elB_mem h3 v hv
      have := hlen t ht
      omega
    repeat' (first | (with_reducible first | refine RL.done ?_ | refine RL.app0 ?_ | refine RL.app1 ?_) | (with_reducible refine RL.wanted ?_ ?_; exact rfl) | ((with_reducible show RH _ _ _ ⟨some 4, .box _ _, _, _, _, _⟩ _ _ _ _); (refine RH.boxAgg rfl rfl ?_; rintro _ _ ⟨b4, rfl, rfl⟩)) | ((with_reducible show RH _ _ _ ⟨some 6, .alloc _, _, _, _, _⟩ _ _ _ _); refine RH.alloc rfl ?_; rintro _ _ ⟨b6, rfl, rfl⟩) | ((with_reducible show RH _ _ _ ⟨_, .call ⟨.value (.func 70), _, _⟩, _, _, _, _⟩ _ _ _ _); refine RH.cP Try.call70 ?_; refine ⟨_, l13Takes_c _ _ _ (by omega) (by assumption), ?_⟩; rintro _ _ ⟨rfl, rfl⟩) | ((with_reducible show RH _ _ _ ⟨_, .call ⟨.value (.func 85), _, _⟩, _, _, _, _⟩ _ _ _ _); refine RH.cP Try.call85 ?_; refine ⟨_, l1In_c _ _ _, ?_⟩; rintro _ _ ⟨rfl, rfl⟩) | ((with_reducible show RH _ _ _ ⟨_, .call ⟨.value (.func 95), _, _⟩, _, _, _, _⟩ _ _ _ _); refine RH.cP Try.call95 ?_; refine ⟨_, l2Elements_c _ _ (by first | omega | (have := relB_ar (relOk_rel' (by assumption)).2; omega) | (constructor <;> simp_all <;> omega)) (by omega), ?_⟩; rintro _ _ ⟨rfl, rfl⟩) | ((with_reducible show RH _ _ _ ⟨_, .call ⟨.value (.func 96), _, _⟩, _, _, _, _⟩ _ _ _ _); refine RH.cP Try.call96 ?_; refine ⟨_, l13Project_c _ _ xs p rfl (by omega) (by omega) hv, ?_⟩; rintro _ _ ⟨s2, rfl, rfl⟩) | ((with_reducible show RH _ _ _ _ _ _ _ _); first | refine RH.val (hK := ?_) | refine RH.upd (hK := ?_)) | (with_reducible show RL _ _ _ (_ :: _) _ _ _; first | refine RL.guardYes rfl rfl rfl rfl ?_ | refine RL.guardNoS rfl rfl rfl rfl rfl rfl ?_ | refine RL.splitND rfl rfl rfl (fun h => ?_) (fun h => ?_) | refine RL.splitNB rfl rfl rfl (fun h => ?_) (fun h => ?_)) | (with_reducible first | refine Run.seq ?_ | refine Run.region ?_ | refine Run.skip ?_ | refine Run.ret ?_) | (with_reducible show Run _ _ (.cond _ _ _) _ _ _; first | refine Run.condT rfl ?_ | refine Run.condNB rfl (fun h => ?_) (fun h => ?_)) | (with_reducible first | refine seqN (K := Run _ _ _ _) ?_ | refine seqR ?_))
    all_goals first
      | (exfalso; omega)
      | (refine ⟨eA, _, [hsl (tS tInt) (vsv s2) (putF (xs.map (comp p)))], resA, ?_, ?_⟩
         · exact SEnt.ch chA
         · exact relRes_yes hg s2)
      | (exfalso; simp_all; done)
      | (exfalso; simp_all; omega)
  · by_cases h1 : relOk n a xs = true
    · have ha := relB_ar (relOk_rel' h1).2
      repeat' (first | (with_reducible first | refine RL.done ?_ | refine RL.app0 ?_) | (with_reducible refine RL.wanted ?_ ?_; exact rfl) | ((with_reducible show RH _ _ _ ⟨some 4, .box _ _, _, _, _, _⟩ _ _ _ _); (refine RH.boxAgg rfl rfl ?_; rintro _ _ ⟨b4, rfl, rfl⟩)) | ((with_reducible show RH _ _ _ ⟨some 6, .alloc _, _, _, _, _⟩ _ _ _ _); refine RH.alloc rfl ?_; rintro _ _ ⟨b6, rfl, rfl⟩) | ((with_reducible show RH _ _ _ ⟨_, .call ⟨.value (.func 70), _, _⟩, _, _, _, _⟩ _ _ _ _); refine RH.cP Try.call70 ?_; refine ⟨_, l13Takes_c _ _ _ (by omega) (by assumption), ?_⟩; rintro _ _ ⟨rfl, rfl⟩) | ((with_reducible show RH _ _ _ ⟨_, .call ⟨.value (.func 85), _, _⟩, _, _, _, _⟩ _ _ _ _); refine RH.cP Try.call85 ?_; refine ⟨_, l1In_c _ _ _, ?_⟩; rintro _ _ ⟨rfl, rfl⟩) | ((with_reducible show RH _ _ _ ⟨_, .call ⟨.value (.func 95), _, _⟩, _, _, _, _⟩ _ _ _ _); refine RH.cP Try.call95 ?_; refine ⟨_, l2Elements_c _ _ (by first | omega | (have := relB_ar (relOk_rel' (by assumption)).2; omega) | (constructor <;> simp_all <;> omega)) (by omega), ?_⟩; rintro _ _ ⟨rfl, rfl⟩) | ((with_reducible show RH _ _ _ _ _ _ _ _); first | refine RH.val (hK := ?_) | refine RH.upd (hK := ?_)) | (with_reducible show RL _ _ _ (_ :: _) _ _ _; first | refine RL.guardYes rfl rfl rfl rfl ?_ | refine RL.guardNoS rfl rfl rfl rfl rfl rfl ?_ | refine RL.splitND rfl rfl rfl (fun h => ?_) (fun h => ?_) | refine RL.splitNB rfl rfl rfl (fun h => ?_) (fun h => ?_)) | (with_reducible first | refine Run.seq ?_ | refine Run.region ?_ | refine Run.skip ?_ | refine Run.ret ?_) | (with_reducible show Run _ _ (.cond _ _ _) _ _ _; first | refine Run.condT rfl ?_ | refine Run.condNB rfl (fun h => ?_) (fun h => ?_)) | (with_reducible first | refine seqN (K := Run _ _ _ _) ?_ | refine seqR ?_))
      all_goals first
        | (refine ⟨eA, _, [hsl (tS tInt) (vsv (none, 0, 0)) []], resA, ?_, ?_⟩
           · exact (SEnt.ch .nil).trans (SEnt.nil _ _)
           · exact relRes_no (by simpa using hg))
        | (exfalso; apply hg; simp_all [prjOk]; done)
        | (exfalso; apply hg; simp_all [prjOk]; omega)
    · repeat' (first | (with_reducible first | refine RL.done ?_ | refine RL.app0 ?_) | (with_reducible refine RL.wanted ?_ ?_; exact rfl) | ((with_reducible show RH _ _ _ ⟨some 4, .box _ _, _, _, _, _⟩ _ _ _ _); (refine RH.boxAgg rfl rfl ?_; rintro _ _ ⟨b4, rfl, rfl⟩)) | ((with_reducible show RH _ _ _ ⟨some 6, .alloc _, _, _, _, _⟩ _ _ _ _); refine RH.alloc rfl ?_; rintro _ _ ⟨b6, rfl, rfl⟩) | ((with_reducible show RH _ _ _ ⟨_, .call ⟨.value (.func 70), _, _⟩, _, _, _, _⟩ _ _ _ _); refine RH.cP Try.call70 ?_; refine ⟨_, l13Takes_c _ _ _ (by omega) (by assumption), ?_⟩; rintro _ _ ⟨rfl, rfl⟩) | ((with_reducible show RH _ _ _ _ _ _ _ _); first | refine RH.val (hK := ?_) | refine RH.upd (hK := ?_)) | (with_reducible show RL _ _ _ (_ :: _) _ _ _; first | refine RL.guardYes rfl rfl rfl rfl ?_ | refine RL.guardNoS rfl rfl rfl rfl rfl rfl ?_ | refine RL.splitNB rfl rfl rfl (fun h => ?_) (fun h => ?_)) | (with_reducible first | refine Run.seq ?_ | refine Run.region ?_ | refine Run.ret ?_) | (with_reducible show Run _ _ (.cond _ _ _) _ _ _; refine Run.condT rfl ?_) | (with_reducible first | refine seqN (K := Run _ _ _ _) ?_ | refine seqR ?_))
      all_goals first
        | (refine ⟨eA, _, [hsl (tS tInt) (vsv (none, 0, 0)) []], resA, ?_, ?_⟩
           · exact (SEnt.ch .nil).trans (SEnt.nil _ _)
           · exact relRes_no (by simpa using hg))
        | (exfalso; apply h1; simp_all; done)
set_option maxRecDepth 10000 in
set_option maxHeartbeats 1000000 in
theorem implPrj_c (n a : Int) (xs : List (List Int)) (p : List Int) (hl : xs.length ≤ 4398046511104) (hr : ∀ t ∈ xs, t.length ≤ 4611686018427387904) (hp : p.length ≤ 4398046511104) :
    Spec Try.prog 28 [vint n, vagg [vint a, vsl 1 (fun t : List Int => [vsl 1 (fun x : Int => [vint x]) t]) xs], vsl 1 (fun x : Int => [vint x]) p] [] (RelRes (prjOk n a xs p) p.length (putF (xs.map (comp p)))) := by
  refine Spec.of_run2 (n := 52) Try.func28 rfl Try.results28 Try.ntmps28 rfl ?_
  by_cases hg : prjOk n a xs p = true
  · obtain ⟨h1, h2, h3⟩ := prjOk_at hg
    have hB := (relOk_rel' h1).2
    have ha := relB_ar hB
    have hlen := relB_len2 hB
    have hmn := rel_many h1
    have hv : ∀ t ∈ xs, ∀ v ∈ p, 0 ≤ v ∧ v < t.length := fun t ht v hv => by
      have := elB_mem h3 v hv
      have := hlen t ht
      omega
    repeat' (first | (with_reducible first | refine RL.done ?_ | refine RL.app0 ?_) | (with_reducible refine RL.wanted ?_ ?_; exact rfl) | ((with_reducible show RH _ _ _ ⟨some 4, .box _ _, _, _, _, _⟩ _ _ _ _); (refine RH.boxAgg rfl rfl ?_; rintro _ _ ⟨b4, rfl, rfl⟩)) | ((with_reducible show RH _ _ _ ⟨some 6, .alloc _, _, _, _, _⟩ _ _ _ _); refine RH.alloc rfl ?_; rintro _ _ ⟨b6, rfl, rfl⟩) | ((with_reducible show RH _ _ _ ⟨some 33, .buildSlice _ _ _, _, _, _, _⟩ _ _ _ _); (refine RH.eff rfl rfl (EOpS.e (EOpS.slitV (by ((repeat (first | exact Elts.nil | apply Elts.one1 rfl | apply Elts.agg2 rfl)); done)) (by simp) rfl rfl)) ?_; rintro _ _ ⟨b33, rfl, rfl⟩)) | ((with_reducible show RH _ _ _ ⟨_, .call ⟨.value (.func 67), _, _⟩, _, _, _, _⟩ _ _ _ _); refine RH.cP Try.call67 ?_; refine ⟨_, hasRelation_c _ _ _ (by omega) (by assumption), ?_⟩; rintro _ _ ⟨rfl, rfl⟩) | ((with_reducible show RH _ _ _ ⟨_, .call ⟨.value (.func 87), _, _⟩, _, _, _, _⟩ _ _ _ _); refine RH.cP Try.call87 ?_; refine ⟨_, inSize_c _ _ (by omega), ?_⟩; rintro _ _ ⟨rfl, rfl⟩) | ((with_reducible show RH _ _ _ _ _ _ _ _); first | refine RH.val (hK := ?_) | refine RH.upd (hK := ?_)) | (with_reducible show RL _ _ _ (_ :: _) _ _ _; first | refine RL.guardYes rfl rfl rfl rfl ?_ | refine RL.guardNoS rfl rfl rfl rfl rfl rfl ?_ | refine RL.splitD rfl rfl rfl (fun h => ?_) (fun h => ?_) | refine RL.splitNB rfl rfl rfl (fun h => ?_) (fun h => ?_)) | (with_reducible first | refine Run.seq ?_ | refine Run.region ?_ | refine Run.block ?_ | refine Run.skip ?_ | refine Run.ret ?_) | (with_reducible show Run _ _ (.cond _ _ _) _ _ _; first | refine Run.condT rfl ?_ | refine Run.condNB rfl (fun h => ?_) (fun h => ?_)) | (with_reducible first | refine seqN (K := Run _ _ _ _) ?_ | refine seqR ?_))
    all_goals first
      | (exfalso; omega)
      | (exfalso; simp_all; done)
      | (exfalso; simp_all; omega)
      | skip
    refine Run.sent (T := [hsl (tS tInt) (vsv (some ⟨b33, 0, none⟩, 0, 0)) [], hcells b6 [vint 0, vlit (.slice none 0 0)], hcells b4 [vint a, vsl 1 (fun t : List Int => [vsl 1 (fun x : Int => [vint x]) t]) xs]])
      ((SEnt.pick (.cons .head .nil)).trans (SEnt.packNil (tS tInt) rfl)) ?_
    refine Run.loop (α := Nat × Sv) (fun z => [(2, vsl 1 (fun x : Int => [vint x]) p), (4, vptr b4 0), (6, vptr b6 0), (8, vlit (vsv z.2)), (35, vsl 1 (fun t : List Int => [vsl 1 (fun x : Int => [vint x]) t]) xs), (36, vint (xs.length : Int)), (37, vint (z.1 : Int))])
      (fun z => [hsl (tS tInt) (vsv z.2) ((xs.map (comp p)).take z.1), hcells b6 [vint 0, vlit (.slice none 0 0)], hcells b4 [vint a, vsl 1 (fun t : List Int => [vsl 1 (fun x : Int => [vint x]) t]) xs]])
      (fun z => z.1 ≤ xs.length) (fun z => xs.length - z.1) (0, (some ⟨b33, 0, none⟩, 0, 0)) (Nat.zero_le _) (Ent.of slA .refl) ?_
    rintro ⟨m, s⟩ hm
    dsimp only at hm ⊢
    have hle2 : ((xs.map (comp p)).take m).length = m := by rw [List.length_take, List.length_map]; omega
    rcases Nat.lt_or_eq_of_le hm with h9 | h9
    · repeat' (first | (with_reducible first | refine RL.done ?_ | refine RL.app1 ?_) | (with_reducible refine RL.wanted ?_ ?_; exact rfl) | ((with_reducible show RH _ _ _ ⟨some 45, .buildSlice _ _ _, _, _, _, _⟩ _ _ _ _); (refine RH.eff rfl rfl (EOpS.e (EOpS.slitV (by ((repeat (first | exact Elts.nil | apply Elts.one1 rfl | apply Elts.agg2 rfl)); done)) (by simp) rfl rfl)) ?_; rintro _ _ ⟨b45, rfl, rfl⟩)) | ((with_reducible show RH _ _ _ ⟨_, .call ⟨.value (.func 94), _, _⟩, _, _, _, _⟩ _ _ _ _); refine RH.cP Try.call94 ?_; refine ⟨_, compose_c p xs[m] (by omega) (hv _ (List.getElem_mem h9)), ?_⟩; rintro _ _ ⟨s1, rfl, rfl⟩) | ((with_reducible show RH _ _ _ ⟨_, .call ⟨.builtin .append, _, _⟩, _, _, _, _⟩ _ _ _ _); (refine RH.appR rfl rfl rfl (by repeat (first | exact Pick.nil | (apply Pick.cons; (with_reducible repeat (first | exact Rem.head | apply Rem.tail))))) (by first | omega | (simp; omega)) (by first | omega | (simp; omega)) ?_); rintro _ _ ⟨s, rfl, rfl⟩) | ((with_reducible show RH _ _ _ _ _ _ _ _); refine RH.val (hK := ?_)) | (with_reducible first | refine Run.seq ?_ | refine Run.region ?_ | refine Run.block ?_ | refine Run.skip ?_ | refine Run.exit ?_) | (with_reducible show Run _ _ (.cond _ _ _) _ _ _; refine Run.condD rfl (fun h => ?_) (fun h => ?_)) | (with_reducible first | refine seqN (K := Run _ _ _ _) ?_ | refine seqE ?_ | refine blockN ?_ | refine blockE ?_))
      all_goals first
        | (exfalso; omega)
        | (with_reducible refine seqN ?_
           exact ⟨(m + 1, _), by dsimp only; omega, by dsimp only; omega, Ent.of (by dsimp only; exact slA) (by dsimp only; rw [map_snoc h9]; exact chA)⟩)
    · subst h9
      refine Run.sent (T := [hsl (tS tInt) (vsv s) (xs.map (comp p)), hcells b6 [vint 0, vlit (.slice none 0 0)], hcells b4 [vint a, vsl 1 (fun t : List Int => [vsl 1 (fun x : Int => [vint x]) t]) xs]]) (SEnt.ch (.cons .head (by rw [List.take_of_length_le (by simp)]) chA)) ?_
      repeat' (first | (with_reducible refine RL.done ?_) | (with_reducible refine RL.wanted ?_ ?_; exact rfl) | ((with_reducible show RH _ _ _ ⟨_, .call ⟨.value (.func 73), _, _⟩, _, _, _, _⟩ _ _ _ _); refine RH.cL Try.call73 ?_; apply Exists.intro; apply And.intro; (focus ((repeat (first | exact LVs.nil | (apply LVs.sl; (with_reducible repeat (first | exact Has.head | apply Has.tail)); exact inferInstance; exact rfl) | apply LVs.refl)); done)); refine ⟨_, makeRelation_c _ p.length (xs.map (comp p)) (by simp; omega) (by omega) (prj_len p xs), (by intro r H h; first | (obtain ⟨rfl, rfl⟩ := h; exact ⟨inferInstance, inferInstance⟩) | (obtain ⟨_, rfl, rfl⟩ := h; exact ⟨inferInstance, inferInstance⟩) | (obtain ⟨_, _, rfl, rfl⟩ := h; exact ⟨inferInstance, inferInstance⟩) | (obtain ⟨_, _, rfl, rfl, _⟩ := h; exact ⟨inferInstance, inferInstance⟩)), ?_⟩; rintro _ _ ⟨s2, rfl, rfl⟩; refine RL.nm ?_) | ((with_reducible show RH _ _ _ _ _ _ _ _); first | refine RH.val (hK := ?_) | refine RH.upd (hK := ?_)) | (with_reducible first | refine Run.seq ?_ | refine Run.region ?_ | refine Run.block ?_ | refine Run.skip ?_ | refine Run.exit ?_ | refine Run.ret ?_) | (with_reducible show Run _ _ (.cond _ _ _) _ _ _; refine Run.condD rfl (fun h => ?_) (fun h => ?_)) | (with_reducible first | refine seqN (K := Run _ _ _ _) ?_ | refine seqE ?_ | refine blockE ?_))
      all_goals first
        | (exfalso; omega)
        | (refine ⟨eA, _, [hsl (tS tInt) (vsv s2) (putF (xs.map (comp p)))], resA, ?_, ?_⟩
           · exact SEnt.ch chA
           · exact relRes_yes hg s2)
  · by_cases h1 : relOk n a xs = true
    · have ha := relB_ar (relOk_rel' h1).2
      repeat' (first | (with_reducible first | refine RL.done ?_ | refine RL.app0 ?_) | (with_reducible refine RL.wanted ?_ ?_; exact rfl) | ((with_reducible show RH _ _ _ ⟨some 4, .box _ _, _, _, _, _⟩ _ _ _ _); (refine RH.boxAgg rfl rfl ?_; rintro _ _ ⟨b4, rfl, rfl⟩)) | ((with_reducible show RH _ _ _ ⟨some 6, .alloc _, _, _, _, _⟩ _ _ _ _); refine RH.alloc rfl ?_; rintro _ _ ⟨b6, rfl, rfl⟩) | ((with_reducible show RH _ _ _ ⟨some 33, .buildSlice _ _ _, _, _, _, _⟩ _ _ _ _); (refine RH.eff rfl rfl (EOpS.e (EOpS.slitV (by ((repeat (first | exact Elts.nil | apply Elts.one1 rfl | apply Elts.agg2 rfl)); done)) (by simp) rfl rfl)) ?_; rintro _ _ ⟨b33, rfl, rfl⟩)) | ((with_reducible show RH _ _ _ ⟨_, .call ⟨.value (.func 67), _, _⟩, _, _, _, _⟩ _ _ _ _); refine RH.cP Try.call67 ?_; refine ⟨_, hasRelation_c _ _ _ (by omega) (by assumption), ?_⟩; rintro _ _ ⟨rfl, rfl⟩) | ((with_reducible show RH _ _ _ ⟨_, .call ⟨.value (.func 87), _, _⟩, _, _, _, _⟩ _ _ _ _); refine RH.cP Try.call87 ?_; refine ⟨_, inSize_c _ _ (by omega), ?_⟩; rintro _ _ ⟨rfl, rfl⟩) | ((with_reducible show RH _ _ _ _ _ _ _ _); first | refine RH.val (hK := ?_) | refine RH.upd (hK := ?_)) | (with_reducible show RL _ _ _ (_ :: _) _ _ _; first | refine RL.guardYes rfl rfl rfl rfl ?_ | refine RL.guardNoS rfl rfl rfl rfl rfl rfl ?_ | refine RL.splitD rfl rfl rfl (fun h => ?_) (fun h => ?_) | refine RL.splitNB rfl rfl rfl (fun h => ?_) (fun h => ?_)) | (with_reducible first | refine Run.seq ?_ | refine Run.region ?_ | refine Run.block ?_ | refine Run.skip ?_ | refine Run.ret ?_) | (with_reducible show Run _ _ (.cond _ _ _) _ _ _; first | refine Run.condT rfl ?_ | refine Run.condNB rfl (fun h => ?_) (fun h => ?_)) | (with_reducible first | refine seqN (K := Run _ _ _ _) ?_ | refine seqR ?_))
      all_goals first
        | (refine ⟨eA, _, [hsl (tS tInt) (vsv (none, 0, 0)) []], resA, ?_, ?_⟩
           · exact (SEnt.ch .nil).trans (SEnt.nil _ _)
           · exact relRes_no (by simpa using hg))
        | (exfalso; apply hg; simp_all [prjOk]; done)
        | (exfalso; apply hg; simp_all [prjOk]; omega)
    · repeat' (first | (with_reducible first | refine RL.done ?_ | refine RL.app0 ?_) | (with_reducible refine RL.wanted ?_ ?_; exact rfl) | ((with_reducible show RH _ _ _ ⟨some 4, .box _ _, _, _, _, _⟩ _ _ _ _); (refine RH.boxAgg rfl rfl ?_; rintro _ _ ⟨b4, rfl, rfl⟩)) | ((with_reducible show RH _ _ _ ⟨some 6, .alloc _, _, _, _, _⟩ _ _ _ _); refine RH.alloc rfl ?_; rintro _ _ ⟨b6, rfl, rfl⟩) | ((with_reducible show RH _ _ _ ⟨_, .call ⟨.value (.func 67), _, _⟩, _, _, _, _⟩ _ _ _ _); refine RH.cP Try.call67 ?_; refine ⟨_, hasRelation_c _ _ _ (by omega) (by assumption), ?_⟩; rintro _ _ ⟨rfl, rfl⟩) | ((with_reducible show RH _ _ _ _ _ _ _ _); first | refine RH.val (hK := ?_) | refine RH.upd (hK := ?_)) | (with_reducible show RL _ _ _ (_ :: _) _ _ _; first | refine RL.guardYes rfl rfl rfl rfl ?_ | refine RL.guardNoS rfl rfl rfl rfl rfl rfl ?_ | refine RL.splitD rfl rfl rfl (fun h => ?_) (fun h => ?_) | refine RL.splitNB rfl rfl rfl (fun h => ?_) (fun h => ?_)) | (with_reducible first | refine Run.seq ?_ | refine Run.region ?_ | refine Run.ret ?_) | (with_reducible show Run _ _ (.cond _ _ _) _ _ _; refine Run.condT rfl ?_) | (with_reducible first | refine seqN (K := Run _ _ _ _) ?_ | refine seqR ?_))
      all_goals first
        | (refine ⟨eA, _, [hsl (tS tInt) (vsv (none, 0, 0)) []], resA, ?_, ?_⟩
           · exact (SEnt.ch .nil).trans (SEnt.nil _ _)
           · exact relRes_no (by simpa using hg))
        | (exfalso; apply h1; simp_all; done)
theorem rev_len {k : Nat} {xs : List (List Int)} (h : ∀ t ∈ xs, t.length = k) : ∀ u ∈ xs.map List.reverse, u.length = k := fun u hu => by
  obtain ⟨t, ht, rfl⟩ := List.mem_map.1 hu
  rw [List.length_reverse, h t ht]
theorem rev_set (t : List Int) (k j : Nat) (hk : t.length = k) (h : j < k) : (List.replicate (k - j) (0 : Int) ++ (t.take j).reverse).set (k - 1 - j) (t[j]'(by omega)) = List.replicate (k - (j + 1)) 0 ++ (t.take (j + 1)).reverse := by
  have e : k - j = (k - (j + 1)) + 1 := by omega
  rw [e, List.replicate_succ', List.append_assoc, List.set_append_right _ _ (by simp; omega)]
  have e2 : k - 1 - j - (List.replicate (k - (j + 1)) (0 : Int)).length = 0 := by simp; omega
  have e3 : t.take (j + 1) = t.take j ++ [t[j]'(by omega)] := by rw [List.take_add_one, List.getElem?_eq_getElem (by omega)]; rfl
  rw [e2, e3, List.reverse_append]
  rfl
set_option maxRecDepth 10000 in
set_option maxHeartbeats 1000000 in
theorem implRev_c (n a : Int) (xs : List (List Int)) (hl : xs.length ≤ 4398046511104) (hr : ∀ t ∈ xs, t.length ≤ 4611686018427387904) :
    Spec Try.prog 13 [vint n, vagg [vint a, vsl 1 (fun t : List Int => [vsl 1 (fun x : Int => [vint x]) t]) xs]] [] (RelRes (relOk n a xs) a (putF (xs.map List.reverse))) := by
  by_cases h1 : relOk n a xs = true
  · have hB := (relOk_rel' h1).2
    have ha := relB_ar hB
    have hlen := relB_len2 hB
    have hmn := rel_many h1
    obtain ⟨k, rfl⟩ : ∃ k : Nat, a = k := ⟨a.toNat, by omega⟩
    have hlk : ∀ t ∈ xs, t.length = k := fun t ht => by have := hlen t ht; omega
    refine Spec.of_run2 (n := 53) Try.func13 rfl Try.results13 Try.ntmps13 rfl ?_
    repeat' (first | (with_reducible first | refine RL.done ?_ | refine RL.app0 ?_) | (with_reducible refine RL.wanted ?_ ?_; exact rfl) | ((with_reducible show RH _ _ _ ⟨some 3, .box _ _, _, _, _, _⟩ _ _ _ _); (refine RH.boxAgg rfl rfl ?_; rintro _ _ ⟨b3, rfl, rfl⟩)) | ((with_reducible show RH _ _ _ ⟨some 4, .alloc _, _, _, _, _⟩ _ _ _ _); refine RH.alloc rfl ?_; rintro _ _ ⟨b4, rfl, rfl⟩) | ((with_reducible show RH _ _ _ ⟨some 17, .buildSlice _ _ _, _, _, _, _⟩ _ _ _ _); (refine RH.eff rfl rfl (EOpS.e (EOpS.slitV (by ((repeat (first | exact Elts.nil | apply Elts.one1 rfl | apply Elts.agg2 rfl)); done)) (by simp) rfl rfl)) ?_; rintro _ _ ⟨b17, rfl, rfl⟩)) | ((with_reducible show RH _ _ _ ⟨_, .call ⟨.value (.func 67), _, _⟩, _, _, _, _⟩ _ _ _ _); refine RH.cP Try.call67 ?_; refine ⟨_, hasRelation_c _ _ _ (by omega) (by assumption), ?_⟩; rintro _ _ ⟨rfl, rfl⟩) | ((with_reducible show RH _ _ _ _ _ _ _ _); first | refine RH.val (hK := ?_) | refine RH.upd (hK := ?_)) | (with_reducible first | refine Run.seq ?_ | refine Run.region ?_ | refine Run.block ?_ | refine Run.skip ?_ | refine Run.ret ?_) | (with_reducible show Run _ _ (.cond _ _ _) _ _ _; refine Run.condNB rfl (fun h => ?_) (fun h => ?_)) | (with_reducible first | refine seqN (K := Run _ _ _ _) ?_ | refine seqR ?_))
    all_goals first
      | (exfalso; omega)
      | (exfalso; simp_all; done)
      | skip
    refine Run.sent (T := [hsl (tS tInt) (vsv (some ⟨b17, 0, none⟩, 0, 0)) [], hcells b4 [vint 0, vlit (.slice none 0 0)], hcells b3 [vint (k : Int), vsl 1 (fun t : List Int => [vsl 1 (fun x : Int => [vint x]) t]) xs]])
      ((SEnt.pick (.cons .head .nil)).trans (SEnt.packNil (tS tInt) rfl)) ?_
    refine Run.loop (α := Nat × Sv) (fun z => [(3, vptr b3 0), (4, vptr b4 0), (6, vlit (vsv z.2)), (19, vsl 1 (fun t : List Int => [vsl 1 (fun x : Int => [vint x]) t]) xs), (20, vint (xs.length : Int)), (21, vint (z.1 : Int))])
      (fun z => [hsl (tS tInt) (vsv z.2) ((xs.map List.reverse).take z.1), hcells b4 [vint 0, vlit (.slice none 0 0)], hcells b3 [vint (k : Int), vsl 1 (fun t : List Int => [vsl 1 (fun x : Int => [vint x]) t]) xs]])
      (fun z => z.1 ≤ xs.length) (fun z => xs.length - z.1) (0, (some ⟨b17, 0, none⟩, 0, 0)) (Nat.zero_le _) (Ent.of slA .refl) ?_
    rintro ⟨m, s⟩ hm
    dsimp only at hm ⊢
    have hle2 : ((xs.map List.reverse).take m).length = m := by rw [List.length_take, List.length_map]; omega
    rcases Nat.lt_or_eq_of_le hm with h9 | h9
    · obtain ⟨t, ht⟩ : ∃ t, xs[m] = t := ⟨_, rfl⟩
      have hxk : xs[m].length = k := hlk _ (List.getElem_mem _)
      have htk : t.length = k := by rw [← ht]; exact hxk
      repeat' (first | (with_reducible refine RL.done ?_) | (with_reducible refine RL.wanted ?_ ?_; exact rfl) | ((with_reducible show RH _ _ _ ⟨some 27, .makeSlice _ _ _, _, _, _, _⟩ _ _ _ _); refine RH.make (α := Int) rfl (fun x => [vint x]) 0 (fun c => .cons rfl .nil) rfl rfl (by omega) (by omega) (by omega) ?_; rintro _ _ ⟨b27, rfl, rfl⟩) | ((with_reducible show RH _ _ _ _ _ _ _ _); refine RH.val (hK := ?_)) | (with_reducible first | refine Run.seq ?_ | refine Run.region ?_ | refine Run.block ?_ | refine Run.skip ?_ | refine Run.exit ?_) | (with_reducible show Run _ _ (.cond _ _ _) _ _ _; refine Run.condD rfl (fun h => ?_) (fun h => ?_)) | (with_reducible first | refine seqN (K := Run _ _ _ _) ?_ | refine seqE ?_ | refine blockE ?_))
      all_goals first
        | (exfalso; omega)
        | skip
      rw [ht]
      refine Run.loop (α := Nat) (fun j => [(3, vptr b3 0), (4, vptr b4 0), (6, vlit (vsv s)), (8, vsl 1 (fun x : Int => [vint x]) t), (9, vsb b27 k k), (19, vsl 1 (fun t : List Int => [vsl 1 (fun x : Int => [vint x]) t]) xs), (20, vint (xs.length : Int)), (21, vint (m : Int)), (28, vsl 1 (fun x : Int => [vint x]) t), (29, vint (t.length : Int)), (30, vint (j : Int))])
        (fun j => [harr b27 1 (fun x : Int => [vint x]) (List.replicate (k - j) (0 : Int) ++ (t.take j).reverse) (k * 1), hsl (tS tInt) (vsv s) ((xs.map List.reverse).take m), hcells b4 [vint 0, vlit (.slice none 0 0)], hcells b3 [vint (k : Int), vsl 1 (fun t : List Int => [vsl 1 (fun x : Int => [vint x]) t]) xs]])
        (fun j => j ≤ k) (fun j => k - j) 0 (Nat.zero_le _) (by rw [← htk, ← ht]; exact Ent.of slA (.cons (by with_reducible repeat (first | exact Rem.head | apply Rem.tail)) (by simp) chA)) ?_
      intro j hj
      (try dsimp only at hj ⊢)
      have hl2 : (List.replicate (k - j) (0 : Int) ++ (t.take j).reverse).length = k := by simp; omega
      rcases Nat.lt_or_eq_of_le hj with h8 | h8
      · have hrs := rev_set t k j htk h8
        have e1 : ((t.length : Int) - 1 - j).toNat = k - 1 - j := by omega
        repeat' (first | (with_reducible refine RL.done ?_) | (with_reducible refine RL.wanted ?_ ?_; exact rfl) | ((with_reducible show RH _ _ _ ⟨some 46, .buildSlice _ _ _, _, _, _, _⟩ _ _ _ _); (refine RH.eff rfl rfl (EOpS.e (EOpS.slitV (by ((repeat (first | exact Elts.nil | apply Elts.one1 rfl | apply Elts.agg2 rfl)); done)) (by simp) rfl rfl)) ?_; rintro _ _ ⟨b46, rfl, rfl⟩)) | ((with_reducible show RH _ _ _ _ _ _ _ _); first | refine RH.val (hK := ?_) | refine RH.upd (hK := ?_)) | (with_reducible first | refine Run.seq ?_ | refine Run.region ?_ | refine Run.block ?_ | refine Run.skip ?_ | refine Run.exit ?_) | (with_reducible show Run _ _ (.cond _ _ _) _ _ _; refine Run.condD rfl (fun h => ?_) (fun h => ?_)) | (with_reducible first | refine seqN (K := Run _ _ _ _) ?_ | refine seqE ?_ | refine blockN ?_ | refine blockE ?_))
        all_goals first
          | (exfalso; omega)
          | (with_reducible refine seqN ?_
             exact ⟨j + 1, by omega, by omega, Ent.of slA (.cons (by with_reducible repeat (first | exact Rem.head | apply Rem.tail)) (by rw [← hrs, ← e1]) chA)⟩)
      · have h8 := h8.symm
        subst h8
        have hrl : t.reverse.length = k := by rw [List.length_reverse, htk]
        refine Run.sent (T := [hsl tInt (.slice (some ⟨b27, 0, none⟩) k k) t.reverse, hsl (tS tInt) (vsv s) ((xs.map List.reverse).take m), hcells b4 [vint 0, vlit (.slice none 0 0)], hcells b3 [vint (k : Int), vsl 1 (fun t : List Int => [vsl 1 (fun x : Int => [vint x]) t]) xs]])
          ((SEnt.ch (T := [harr b27 1 (fun x : Int => [vint x]) t.reverse (k * 1), hsl (tS tInt) (vsv s) ((xs.map List.reverse).take m), hcells b4 [vint 0, vlit (.slice none 0 0)], hcells b3 [vint (k : Int), vsl 1 (fun t : List Int => [vsl 1 (fun x : Int => [vint x]) t]) xs]]) (.cons .head (by rw [Nat.sub_self, List.replicate_zero, List.nil_append, List.take_of_length_le (by omega)]) chA)).trans (SEnt.pack (fun _ => rfl) hrl.symm)) ?_
        have hd : (xs.map List.reverse).take (m + 1) = (xs.map List.reverse).take m ++ [t.reverse] := by rw [map_snoc h9, ht]
        repeat' (first | (with_reducible refine RL.done ?_) | (with_reducible refine RL.wanted ?_ ?_; exact rfl) | ((with_reducible show RH _ _ _ ⟨some 46, .buildSlice _ _ _, _, _, _, _⟩ _ _ _ _); (refine RH.eff rfl rfl (EOpS.e (EOpS.slitV (by ((repeat (first | exact Elts.nil | apply Elts.one1 rfl | apply Elts.agg2 rfl)); done)) (by simp) rfl rfl)) ?_; rintro _ _ ⟨b46, rfl, rfl⟩)) | ((with_reducible show RH _ _ _ ⟨_, .call ⟨.builtin .append, _, _⟩, _, _, _, _⟩ _ _ _ _); (refine RH.appR rfl rfl rfl (by repeat (first | exact Pick.nil | (apply Pick.cons; (with_reducible repeat (first | exact Rem.head | apply Rem.tail))))) (by first | omega | (simp; omega)) (by first | omega | (simp; omega)) ?_); rintro _ _ ⟨s, rfl, rfl⟩) | ((with_reducible show RH _ _ _ _ _ _ _ _); first | refine RH.val (hK := ?_) | refine RH.upd (hK := ?_)) | (with_reducible first | refine Run.seq ?_ | refine Run.region ?_ | refine Run.block ?_ | refine Run.skip ?_ | refine Run.exit ?_) | (with_reducible show Run _ _ (.cond _ _ _) _ _ _; refine Run.condD rfl (fun h => ?_) (fun h => ?_)) | (with_reducible first | refine seqN (K := Run _ _ _ _) ?_ | refine seqE ?_ | refine blockN ?_ | refine blockE ?_))
        all_goals first
          | (exfalso; omega)
          | (with_reducible refine seqN ?_
             exact ⟨(m + 1, _), by dsimp only; omega, by dsimp only; omega, Ent.of (by dsimp only; exact slA) (by dsimp only; rw [hd]; exact chA)⟩)
    · subst h9
      refine Run.sent (T := [hsl (tS tInt) (vsv s) (xs.map List.reverse), hcells b4 [vint 0, vlit (.slice none 0 0)], hcells b3 [vint (k : Int), vsl 1 (fun t : List Int => [vsl 1 (fun x : Int => [vint x]) t]) xs]]) (SEnt.ch (.cons .head (by rw [List.take_of_length_le (by simp)]) chA)) ?_
      repeat' (first | (with_reducible refine RL.done ?_) | (with_reducible refine RL.wanted ?_ ?_; exact rfl) | ((with_reducible show RH _ _ _ ⟨some 27, .makeSlice _ _ _, _, _, _, _⟩ _ _ _ _); refine RH.make (α := Int) rfl (fun x => [vint x]) 0 (fun c => .cons rfl .nil) rfl rfl (by omega) (by omega) (by omega) ?_; rintro _ _ ⟨b27, rfl, rfl⟩) | ((with_reducible show RH _ _ _ ⟨_, .call ⟨.value (.func 73), _, _⟩, _, _, _, _⟩ _ _ _ _); refine RH.cL Try.call73 ?_; apply Exists.intro; apply And.intro; (focus ((repeat (first | exact LVs.nil | (apply LVs.sl; (with_reducible repeat (first | exact Has.head | apply Has.tail)); exact inferInstance; exact rfl) | apply LVs.refl)); done)); refine ⟨_, makeRelation_c _ k (xs.map List.reverse) (by simp; omega) (by omega) (rev_len hlk), (by intro r H h; first | (obtain ⟨rfl, rfl⟩ := h; exact ⟨inferInstance, inferInstance⟩) | (obtain ⟨_, rfl, rfl⟩ := h; exact ⟨inferInstance, inferInstance⟩) | (obtain ⟨_, _, rfl, rfl⟩ := h; exact ⟨inferInstance, inferInstance⟩) | (obtain ⟨_, _, rfl, rfl, _⟩ := h; exact ⟨inferInstance, inferInstance⟩)), ?_⟩; rintro _ _ ⟨s2, rfl, rfl⟩; refine RL.nm ?_) | ((with_reducible show RH _ _ _ _ _ _ _ _); first | refine RH.val (hK := ?_) | refine RH.upd (hK := ?_)) | (with_reducible first | refine Run.seq ?_ | refine Run.region ?_ | refine Run.block ?_ | refine Run.skip ?_ | refine Run.exit ?_ | refine Run.ret ?_) | (with_reducible show Run _ _ (.cond _ _ _) _ _ _; refine Run.condD rfl (fun h => ?_) (fun h => ?_)) | (with_reducible first | refine seqN (K := Run _ _ _ _) ?_ | refine seqE ?_ | refine blockE ?_))
      all_goals first
        | (exfalso; omega)
        | (refine ⟨eA, _, [hsl (tS tInt) (vsv s2) (putF (xs.map List.reverse))], resA, ?_, ?_⟩
           · exact SEnt.ch chA
           · exact relRes_yes h1 s2)
  · refine Spec.of_run2 (n := 53) Try.func13 rfl Try.results13 Try.ntmps13 rfl ?_
    repeat' (first | (with_reducible first | refine RL.done ?_ | refine RL.app0 ?_) | (with_reducible refine RL.wanted ?_ ?_; exact rfl) | ((with_reducible show RH _ _ _ ⟨some 3, .box _ _, _, _, _, _⟩ _ _ _ _); (refine RH.boxAgg rfl rfl ?_; rintro _ _ ⟨b3, rfl, rfl⟩)) | ((with_reducible show RH _ _ _ ⟨some 4, .alloc _, _, _, _, _⟩ _ _ _ _); refine RH.alloc rfl ?_; rintro _ _ ⟨b4, rfl, rfl⟩) | ((with_reducible show RH _ _ _ ⟨some 17, .buildSlice _ _ _, _, _, _, _⟩ _ _ _ _); (refine RH.eff rfl rfl (EOpS.e (EOpS.slitV (by ((repeat (first | exact Elts.nil | apply Elts.one1 rfl | apply Elts.agg2 rfl)); done)) (by simp) rfl rfl)) ?_; rintro _ _ ⟨b17, rfl, rfl⟩)) | ((with_reducible show RH _ _ _ ⟨_, .call ⟨.value (.func 67), _, _⟩, _, _, _, _⟩ _ _ _ _); refine RH.cP Try.call67 ?_; refine ⟨_, hasRelation_c _ _ _ (by omega) (by assumption), ?_⟩; rintro _ _ ⟨rfl, rfl⟩) | ((with_reducible show RH _ _ _ _ _ _ _ _); first | refine RH.val (hK := ?_) | refine RH.upd (hK := ?_)) | (with_reducible first | refine Run.seq ?_ | refine Run.region ?_ | refine Run.block ?_ | refine Run.skip ?_ | refine Run.ret ?_) | (with_reducible show Run _ _ (.cond _ _ _) _ _ _; refine Run.condNB rfl (fun h => ?_) (fun h => ?_)) | (with_reducible first | refine seqN (K := Run _ _ _ _) ?_ | refine seqR ?_))
    all_goals first
      | (refine ⟨eA, _, [hsl (tS tInt) (vsv (none, 0, 0)) []], resA, ?_, ?_⟩
         · exact (SEnt.ch .nil).trans (SEnt.nil _ _)
         · exact relRes_no (by simpa using h1))
      | (exfalso; apply h1; simp_all; done)
end Go.Proofs.Ytiifdhdhjioefaa
