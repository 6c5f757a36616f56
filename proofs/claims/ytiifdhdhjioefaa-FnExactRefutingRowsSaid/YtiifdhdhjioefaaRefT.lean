/- The search for a row that is good, over rows of its own: (*impl.rowSearch).add. Proved for this program; conditions: rows of at most 1024 places, elements below 8, at most 150 rows. -/
import Derived.Test.YtiifdhdhjioefaaFindX
import Derived.Test.YtiifdhdhjioefaaClsR
namespace Go.Proofs.Ytiifdhdhjioefaa
open Go Go.Proofs
set_option linter.unusedVariables false
theorem SEnt.splitrows {a b : PS} {S : List HP} : SEnt (hrows (a ++ b) :: S) (hrows a :: hrows b :: S) := fun c fs hs => by
  obtain ⟨f, gs, rfl, fss, rfl, h1⟩ := hs.head
  obtain ⟨g1, g2, rfl, h3, h4⟩ := rows_cut h1
  exact ⟨_, SHf.part (f1 := g1.flatten) (f2 := g2.flatten) (by rw [List.flatten_append] at hs; exact hs) ⟨_, rfl, h3⟩ ⟨_, rfl, h4⟩⟩
theorem SEnt.rowone {w : Sv} {t : List Int} {S : List HP} : SEnt (hsl tInt (vsv w) t :: S) (hrows [(w, t)] :: S) := SEnt.nilrows.trans (SEnt.insrow (p1 := []) (p2 := []))
def chosenP (Ln : PS) (ns : List Int) : PS := ns.map fun x => Ln.getD x.toNat default
theorem chosenP_fst {Ln : PS} {ns : List Int} (h : ∀ x ∈ ns, 0 ≤ x ∧ x.toNat < Ln.length) : (chosenP Ln ns).map Prod.fst = chosenV (Ln.map Prod.fst) ns := by
  rw [chosenP, chosenV, List.map_map]
  apply List.map_congr_left
  intro x hx
  have h1 := (h x hx).2
  simp [List.getD_eq_getElem?_getD, List.getElem?_eq_getElem h1]
theorem chosenP_snd {Ln : PS} {ns : List Int} (h : ∀ x ∈ ns, 0 ≤ x ∧ x.toNat < Ln.length) : (chosenP Ln ns).map Prod.snd = chosen (Ln.map Prod.snd) ns := by
  rw [chosenP, chosen, List.map_map]
  apply List.map_congr_left
  intro x hx
  have h1 := (h x hx).2
  simp [List.getD_eq_getElem?_getD, List.getElem?_eq_getElem h1]
theorem chosenP_mem {Ln : PS} {ns : List Int} (h : ∀ x ∈ ns, 0 ≤ x ∧ x.toNat < Ln.length) : ∀ p ∈ chosenP Ln ns, p ∈ Ln := fun p hp => by
  obtain ⟨x, hx, rfl⟩ := List.mem_map.1 hp
  have h1 := (h x hx).2
  rw [List.getD_eq_getElem?_getD, List.getElem?_eq_getElem h1]
  exact List.getElem_mem _
theorem rows_len {c : Ctx} {ps : PS} {fss : List (List Nat)} (h : Rows c (tS tInt) (ps.map Prod.snd) (ps.map fun p => [vsv p.1]) fss) : ∀ p ∈ ps, p.1.2.1 = p.2.length := by
  induction ps generalizing fss with
  | nil => intro p hp; cases hp
  | cons q ps ih =>
    cases h with
    | cons hp hr =>
      intro p hpm
      rcases List.mem_cons.1 hpm with rfl | hpm
      · obtain ⟨v, h1, h2⟩ := hp
        obtain ⟨ao, cap, rfl⟩ := h2.shape
        injection h1 with h1
        injection h1
      · exact ih hr p hpm
theorem Run.rowlens {P : Program} {n : Nat} {x : Code} {Q : Post} {φ : Slots} {ps : PS} {S S' : List HP} (hr : Rem S (hrows ps) S') (h : (∀ p ∈ ps, p.1.2.1 = p.2.length) → Run P n x Q φ S) : Run P n x Q φ S :=
  ⟨fun c a hf hs => by
    obtain ⟨gs, f, h1⟩ := hs.rem hr
    obtain ⟨f0, gs0, h3, fss, rfl, h2⟩ := h1.head
    exact (h (rows_len h2)).run c a hf hs⟩
/-- a row of one's own is taken out -/
theorem SEnt.rowout1 {w : Sv} {t : List Int} {S : List HP} : SEnt (hrows [(w, t)] :: S) (hsl tInt (vsv w) t :: S) := fun c fs hs => by
  obtain ⟨f, gs, rfl, fss, rfl, h1⟩ := hs.head
  cases h1 with
  | cons hp hr =>
    cases hr
    obtain ⟨v, e, h3⟩ := hp
    have e2 : vsv w = v := by injection e
    subst e2
    exact ⟨_, SHf.perm (f' := _) hs (by simp) h3⟩
theorem SEnt.rowout {w : Sv} {t : List Int} {r : PS} {S : List HP} : SEnt (hrows ((w, t) :: r) :: S) (hsl tInt (vsv w) t :: hrows r :: S) :=
  (SEnt.splitrows (a := [(w, t)]) (b := r)).trans SEnt.rowout1
theorem Spec.unrows {P : Program} {f : FuncId} {args : List VP} {v : Value} {xs : List (List Int)} {S : List HP} {R : VP → List HP → Prop} (h : ∀ ps : PS, ps.map Prod.snd = xs → Spec P f args (hsl tSv v (ps.map Prod.fst) :: hrows ps :: S) R) : Spec P f args (hsl (tS tInt) v xs :: S) R :=
  ⟨fun c vs ha ⟨fs, hs⟩ => by
    obtain ⟨ps, h2, hs2⟩ := hs.unrows
    exact (h ps h2).run c vs ha hs2⟩
theorem SEnt.addrow {ps : PS} {w : Sv} {t : List Int} {S : List HP} : SEnt (hsl tInt (vsv w) t :: hrows ps :: S) (hrows (ps ++ [(w, t)]) :: S) := SEnt.rowone.trans ((SEnt.pick (.cons (.tail .head) (.cons .head .nil))).trans SEnt.catrows)
/-- what is told of rows by a function value -/
abbrev GoodOwn (fk : FuncId) (vs : List Value) (J : HP) (G : List Int → Bool) (n : Int) (size : Nat) : Prop :=
  ∀ (w : Sv) (t : List Int), t.length = size → elB n t = true → Spec Try.prog fk ([vlit (vsv w)] ++ vs.map vlit) [hsl tInt (vsv w) t, J] (fun r S' => r = vbool (G t) ∧ S' = [hsl tInt (vsv w) t, J])
abbrev QRow (bq : Nat) (n : Int) (os : List (Int × List Int)) (fv : Value) (bm : Nat) (J : HP) (s : QS) (r : VP) (S' : List HP) : Prop :=
  ∃ (u1 u2 : Sv) (ps : PS), r = vbool (decide (s.2.2 = 2)) ∧ S' = [qcells bq n os fv u1 u2 bm (s.2.1 : Int) s.2.2, hsl tSv (vsv u1) (ps.map Prod.fst), hrows ps, hsl (tPair tInt (tS tInt)) (vsv u2) s.1.2, hset bm (List.map keyS s.1.1), J] ∧ ps.map Prod.snd = s.1.1
set_option maxRecDepth 10000 in
set_option maxHeartbeats 4000000 in
theorem qaddR_c (bq bm : Nat) (s1 s2 w : Sv) (n : Int) (os : List (Int × List Int)) (size : Nat) (fk : FuncId) (vs : List Value) (J : HP) (G : List Int → Bool) (hE : Enters Try.prog fk) (hgood : GoodOwn fk vs J G n size)
    (ps : PS) (V : List Sv) (c : CS) (tr : Nat) (t : List Int) (op : Int) (ns : List Int) (hV : ps.map Prod.fst = V) (hps : ps.map Prod.snd = c.1) (hs : QInv n size (c, tr, 2)) (h8 : n ≤ 8) (hsz : size ≤ 1024) (ht : t.length = size) (he : elB n t = true) (hns : ns.length ≤ 1024) :
    Spec Try.prog 191 [vptr bq 0, vlit (vsv w), vint op, vsl 1 (fun x : Int => [vint x]) ns] [hsl tInt (vsv w) t, qcells bq n os (.func (.func fk) #[] vs.toArray) s1 s2 bm (tr : Int) 2, hsl tSv (vsv s1) V, hrows ps, hsl (tPair tInt (tS tInt)) (vsv s2) c.2, hset bm (List.map keyS c.1), J]
      (QRow bq n os (.func (.func fk) #[] vs.toArray) bm J (addQ G (c, tr, 2) t (op, ns))) := by
  have hm := hs.inv.key h8 he
  have hfew := hs.few
  have hstp := hs.inv.stp
  have hgt := hgood w t ht he
  (try dsimp only at hm hfew hstp)
  have hpl : V.length = c.1.length := by rw [← hps, ← hV]; simp
  refine Spec.of_run2 (n := 64) Try.func191 rfl Try.results191 Try.ntmps191 rfl ?_
  by_cases hin : t ∈ c.1
  · have e : addQ G (c, tr, 2) t (op, ns) = (c, tr, 2) := addQ_old hin
    rw [e]
    have hk := hm.2 hin
    repeat' (first | (with_reducible refine RL.done ?_) | (with_reducible refine RL.wanted ?_ ?_; exact rfl) | ((with_reducible show RH _ _ _ ⟨some 38, .buildSlice _ _ _, _, _, _, _⟩ _ _ _ _); (refine RH.eff rfl rfl (EOpS.e (EOpS.slitV (by ((repeat (first | exact Elts.nil | apply Elts.one1 rfl | apply Elts.agg2 rfl)); done)) (by simp) rfl rfl)) ?_; rintro _ _ ⟨b38, rfl, rfl⟩)) | ((with_reducible show RH _ _ _ ⟨_, .call ⟨.value (.func 76), _, _⟩, _, _, _, _⟩ _ _ _ _); refine RH.cL Try.call76 ?_; apply Exists.intro; apply And.intro; (focus ((repeat (first | exact LVs.nil | (apply LVs.sl; (with_reducible repeat (exact Has.head)); exact inferInstance; exact rfl))); done)); refine ⟨_, keyOf_c t (by omega), (by intro r H h; first | (obtain ⟨rfl, rfl⟩ := h; exact ⟨inferInstance, inferInstance⟩) | (obtain ⟨_, rfl, rfl⟩ := h; exact ⟨inferInstance, inferInstance⟩) | (obtain ⟨_, _, rfl, rfl⟩ := h; exact ⟨inferInstance, inferInstance⟩) | (obtain ⟨_, _, rfl, rfl, _⟩ := h; exact ⟨inferInstance, inferInstance⟩)), ?_⟩; rintro _ _ ⟨rfl, rfl⟩; refine RL.nm ?_) | ((with_reducible show RH _ _ _ _ _ _ _ _); first | refine RH.val (hK := ?_) | refine RH.upd (hK := ?_)) | (with_reducible first | refine Run.seq ?_ | refine Run.region ?_ | refine Run.skip ?_ | refine Run.ret ?_) | (with_reducible show Run _ _ (.cond _ _ _) _ _ _; refine Run.condD rfl (fun h => ?_) (fun h => ?_)) | (with_reducible first | refine seqN (K := Run _ _ _ _) ?_ | refine seqR ?_))
    all_goals first
      | (exfalso; exact (by assumption : ¬ _) hk)
      | skip
    refine ⟨eA, _, [qcells bq n os (.func (.func fk) #[] vs.toArray) s1 s2 bm (tr : Int) 2, hsl tSv (vsv s1) V, hrows ps, hsl (tPair tInt (tS tInt)) (vsv s2) c.2, hset bm (List.map keyS c.1), J], resA, ?_, ?_⟩
    · exact SEnt.ch chA
    · exact ⟨s1, s2, ps, rfl, by rw [hV], hps⟩
  · have hk : ¬ keyS t ∈ List.map keyS c.1 := fun h => hin (hm.1 h)
    by_cases hfull : c.1.length = 150
    · have e : addQ G (c, tr, 2) t (op, ns) = (c, tr, 3) := addQ_full rfl hin hfull
      rw [e]
      repeat' (first | (with_reducible refine RL.done ?_) | (with_reducible refine RL.wanted ?_ ?_; exact rfl) | ((with_reducible show RH _ _ _ ⟨some 38, .buildSlice _ _ _, _, _, _, _⟩ _ _ _ _); (refine RH.eff rfl rfl (EOpS.e (EOpS.slitV (by ((repeat (first | exact Elts.nil | apply Elts.one1 rfl | apply Elts.agg2 rfl)); done)) (by simp) rfl rfl)) ?_; rintro _ _ ⟨b38, rfl, rfl⟩)) | ((with_reducible show RH _ _ _ ⟨_, .call ⟨.value (.func 76), _, _⟩, _, _, _, _⟩ _ _ _ _); refine RH.cL Try.call76 ?_; apply Exists.intro; apply And.intro; (focus ((repeat (first | exact LVs.nil | (apply LVs.sl; (with_reducible repeat (exact Has.head)); exact inferInstance; exact rfl))); done)); refine ⟨_, keyOf_c t (by omega), (by intro r H h; first | (obtain ⟨rfl, rfl⟩ := h; exact ⟨inferInstance, inferInstance⟩) | (obtain ⟨_, rfl, rfl⟩ := h; exact ⟨inferInstance, inferInstance⟩) | (obtain ⟨_, _, rfl, rfl⟩ := h; exact ⟨inferInstance, inferInstance⟩) | (obtain ⟨_, _, rfl, rfl, _⟩ := h; exact ⟨inferInstance, inferInstance⟩)), ?_⟩; rintro _ _ ⟨rfl, rfl⟩; refine RL.nm ?_) | ((with_reducible show RH _ _ _ _ _ _ _ _); first | refine RH.val (hK := ?_) | refine RH.upd (hK := ?_)) | (with_reducible first | refine Run.seq ?_ | refine Run.region ?_ | refine Run.skip ?_ | refine Run.ret ?_) | (with_reducible show Run _ _ (.cond _ _ _) _ _ _; refine Run.condD rfl (fun h => ?_) (fun h => ?_)) | (with_reducible first | refine seqN (K := Run _ _ _ _) ?_ | refine seqR ?_))
      all_goals first
        | (exfalso; exact hk (by assumption))
        | (exfalso; omega)
        | skip
      refine ⟨eA, _, [qcells bq n os (.func (.func fk) #[] vs.toArray) s1 s2 bm (tr : Int) 3, hsl tSv (vsv s1) V, hrows ps, hsl (tPair tInt (tS tInt)) (vsv s2) c.2, hset bm (List.map keyS c.1), J], resA, ?_, ?_⟩
      · exact SEnt.ch chA
      · exact ⟨s1, s2, ps, rfl, by rw [hV], hps⟩
    · have e : addQ G (c, tr, 2) t (op, ns) = ((c.1 ++ [t], c.2 ++ [(op, ns)]), tr, if G t = true then 1 else 2) := addQ_new rfl hin hfull
      rw [e]
      have e1 : (ps ++ [(w, t)]).map Prod.fst = V ++ [w] := by rw [List.map_append, hV]; rfl
      have e2 : (ps ++ [(w, t)]).map Prod.snd = c.1 ++ [t] := by rw [List.map_append, hps]; rfl
      cases hG : G t with
      | true =>
        rw [hG] at hgt
        repeat' (first | (with_reducible first | refine RL.done ?_ | refine RD.app1 ?_) | (with_reducible refine RL.wanted ?_ ?_; exact rfl) | ((with_reducible show Run _ _ (.region 9 _ true) _ _ _); refine Run.regionD (fun i => i == 10 || i == 13) rfl ?_; change RD _ _ _ _ _ _ 14 (dm 14 0) _ _) | ((with_reducible show RD _ _ 9 _ _ _ _ _ _ _); first | ((with_reducible show RD _ _ _ _ _ _ _ (dm 14 0) _ _); refine RD.tk 1 (dm 14 15388) (dm 14 2) (hK := ?_)) | ((with_reducible show RD _ _ _ _ _ _ _ (dm 14 2) _ _); refine RD.tk 2 (dm 14 15384) (dm 14 6) (hK := ?_)) | ((with_reducible show RD _ _ _ _ _ _ _ (dm 14 6) _ _); refine RD.tk 3 (dm 14 15376) (dm 14 14) (hK := ?_)) | ((with_reducible show RD _ _ _ _ _ _ _ (dm 14 14) _ _); refine RD.tk 4 (dm 14 15360) (dm 14 30) (hK := ?_)) | ((with_reducible show RD _ _ _ _ _ _ _ (dm 14 30) _ _); refine RD.tk 5 (dm 14 16128) (dm 14 62) (hK := ?_)) | ((with_reducible show RD _ _ _ _ _ _ _ (dm 14 62) _ _); refine RD.tk 6 (dm 14 16256) (dm 14 126) (hK := ?_)) | ((with_reducible show RD _ _ _ _ _ _ _ (dm 14 126) _ _); refine RD.mv 0 (dm 14 14336) (dm 14 127) (hK := ?_)) | ((with_reducible show RD _ _ _ _ _ _ _ (dm 14 127) _ _); refine RD.a1 7 ?_) | ((with_reducible show RD _ _ _ _ _ _ _ (dm 14 255) _ _); refine RD.tk 8 (dm 14 15872) (dm 14 511) (hK := ?_)) | ((with_reducible show RD _ _ _ _ _ _ _ (dm 14 511) _ _); refine RD.a1 9 ?_) | ((with_reducible show RD _ _ _ _ _ _ _ (dm 14 1023) _ _); refine RD.a1 10 ?_) | ((with_reducible show RD _ _ _ _ _ _ _ (dm 14 2047) _ _); refine RD.tk 11 (dm 14 12288) (dm 14 4095) (hK := ?_)) | ((with_reducible show RD _ _ _ _ _ _ _ (dm 14 4095) _ _); refine RD.tk 12 (dm 14 8192) (dm 14 8191) (hK := ?_)) | ((with_reducible show RD _ _ _ _ _ _ _ (dm 14 8191) _ _); refine RD.a1 13 ?_) | ((with_reducible show RD _ _ _ _ _ _ 0 _ _ _); refine RD.done (by kernel_rfl) ?_)) | ((with_reducible show RO _ _ 9 _ _ _ _ _ _ _ _); first | ((with_reducible show RO _ _ _ _ _ _ _ (dm 14 127) 7 _ _); (refine RO.cP (dm 14 255) Try.call77 ?_; refine ⟨_, clone_c ns (by omega), ?_⟩; rintro _ _ ⟨s3, rfl, rfl⟩)) | ((with_reducible show RO _ _ _ _ _ _ _ (dm 14 511) 9 _ _); (refine RO.eS (dm 14 1023) (hv := by show EOpS _ _ _ _ ⟨_, .buildSlice _ _ _, _, _, _, _⟩ _; exact EOpS.slitV (by repeat (first | exact Elts.nil | apply Elts.one1 rfl | apply Elts.agg2 rfl)) (by simp) rfl rfl) (h := ?_); rintro _ _ ⟨b51, rfl, rfl⟩)) | ((with_reducible show RO _ _ _ _ _ _ _ (dm 14 1023) 10 _ _); (refine RO.h (dm 14 2047) ?_; show RH _ _ _ ⟨_, _, _, _, _, _⟩ _ _ _ _)) | ((with_reducible show RO _ _ _ _ _ _ _ (dm 14 8191) 13 _ _); (refine RO.h (dm 14 16383) ?_; show RH _ _ _ ⟨_, _, _, _, _, _⟩ _ _ _ _))) | ((with_reducible show RH _ _ _ ⟨some 38, .buildSlice _ _ _, _, _, _, _⟩ _ _ _ _); (refine RH.eff rfl rfl (EOpS.e (EOpS.slitV (by ((repeat (first | exact Elts.nil | apply Elts.one1 rfl | apply Elts.agg2 rfl)); done)) (by simp) rfl rfl)) ?_; rintro _ _ ⟨b38, rfl, rfl⟩)) | ((with_reducible show RH _ _ _ ⟨_, .call ⟨.value (.func 76), _, _⟩, _, _, _, _⟩ _ _ _ _); refine RH.cL Try.call76 ?_; apply Exists.intro; apply And.intro; (focus ((repeat (first | exact LVs.nil | (apply LVs.sl; (with_reducible repeat (exact Has.head)); exact inferInstance; exact rfl))); done)); refine ⟨_, keyOf_c t (by omega), (by intro r H h; first | (obtain ⟨rfl, rfl⟩ := h; exact ⟨inferInstance, inferInstance⟩) | (obtain ⟨_, rfl, rfl⟩ := h; exact ⟨inferInstance, inferInstance⟩) | (obtain ⟨_, _, rfl, rfl⟩ := h; exact ⟨inferInstance, inferInstance⟩) | (obtain ⟨_, _, rfl, rfl, _⟩ := h; exact ⟨inferInstance, inferInstance⟩)), ?_⟩; rintro _ _ ⟨rfl, rfl⟩; refine RL.nm ?_) | ((with_reducible show RH _ _ _ ⟨some 39, .call ⟨.builtin .append, _, _⟩, _, _, _, _⟩ _ _ _ _); (refine RH.appSv rfl rfl rfl (by repeat (first | exact Pick.nil | (apply Pick.cons; (with_reducible repeat (first | exact Rem.head | apply Rem.tail))))) (by first | omega | (simp; omega)) (by first | omega | (simp; omega)) ?_); rintro _ _ ⟨s39, rfl, rfl⟩) | ((with_reducible show RH _ _ _ ⟨some 52, .call ⟨.builtin .append, _, _⟩, _, _, _, _⟩ _ _ _ _); (refine RH.appPI rfl rfl rfl (by repeat (first | exact Pick.nil | (apply Pick.cons; (with_reducible repeat (first | exact Rem.head | apply Rem.tail))))) (by first | omega | (simp; omega)) (by first | omega | (simp; omega)) ?_); rintro _ _ ⟨s52, rfl, rfl⟩) | ((with_reducible show RH _ _ _ ⟨_, .call ⟨.value (.tmp _), _, _⟩, _, _, _, _⟩ _ _ _ _); refine RH.cC hE ?_; refine ⟨_, _, _, .cons (by with_reducible repeat (first | exact Rem.head | apply Rem.tail)) (.cons (by with_reducible repeat (first | exact Rem.head | apply Rem.tail)) .nil), hgt, ?_⟩; rintro _ _ ⟨rfl, rfl⟩; refine RL.nm ?_) | ((with_reducible show RH _ _ _ _ _ _ _ _); first | refine RH.val (hK := ?_) | refine RH.upd (hK := ?_)) | (with_reducible first | refine Run.seq ?_ | refine Run.region ?_ | refine Run.skip ?_ | refine Run.ret ?_) | (with_reducible show Run _ _ (.cond _ _ _) _ _ _; first | refine Run.condT rfl ?_ | refine Run.condD rfl (fun h => ?_) (fun h => ?_)) | (with_reducible first | refine seqN (K := Run _ _ _ _) ?_ | refine seqR ?_))
        all_goals first
          | (exfalso; exact hk (by assumption))
          | (exfalso; omega)
          | skip
        all_goals
          refine ⟨eA, _, [qcells bq n os (.func (.func fk) #[] vs.toArray) s39 s52 bm (tr : Int) 1, hsl tSv (vsv s39) (V ++ [w]), hrows (ps ++ [(w, t)]), hsl (tPair tInt (tS tInt)) (vsv s52) (c.2 ++ [(op, ns)]), hset bm (List.map keyS (c.1 ++ [t])), J], resA, ?_, ?_⟩
        all_goals first
          | exact ⟨s39, s52, ps ++ [(w, t)], rfl, by rw [e1]; rfl, e2⟩
          | (rw [List.map_append, List.map_cons, List.map_nil]; exact (SEnt.pick (B := [hsl tInt (vsv w) t, hrows ps]) (by repeat (first | exact Pick.nil | (apply Pick.cons; (repeat (first | exact Rem.head | apply Rem.tail)))))).trans (SEnt.addrow.trans (SEnt.ch (by repeat (first | exact Ch.nil | refine Ch.same (by repeat (first | exact Rem.head | apply Rem.tail)) ?_)))))
      | false =>
        rw [hG] at hgt
        repeat' (first | (with_reducible first | refine RL.done ?_ | refine RD.app1 ?_) | (with_reducible refine RL.wanted ?_ ?_; exact rfl) | ((with_reducible show Run _ _ (.region 9 _ true) _ _ _); refine Run.regionD (fun i => i == 10 || i == 13) rfl ?_; change RD _ _ _ _ _ _ 14 (dm 14 0) _ _) | ((with_reducible show RD _ _ 9 _ _ _ _ _ _ _); first | ((with_reducible show RD _ _ _ _ _ _ _ (dm 14 0) _ _); refine RD.tk 1 (dm 14 15388) (dm 14 2) (hK := ?_)) | ((with_reducible show RD _ _ _ _ _ _ _ (dm 14 2) _ _); refine RD.tk 2 (dm 14 15384) (dm 14 6) (hK := ?_)) | ((with_reducible show RD _ _ _ _ _ _ _ (dm 14 6) _ _); refine RD.tk 3 (dm 14 15376) (dm 14 14) (hK := ?_)) | ((with_reducible show RD _ _ _ _ _ _ _ (dm 14 14) _ _); refine RD.tk 4 (dm 14 15360) (dm 14 30) (hK := ?_)) | ((with_reducible show RD _ _ _ _ _ _ _ (dm 14 30) _ _); refine RD.tk 5 (dm 14 16128) (dm 14 62) (hK := ?_)) | ((with_reducible show RD _ _ _ _ _ _ _ (dm 14 62) _ _); refine RD.tk 6 (dm 14 16256) (dm 14 126) (hK := ?_)) | ((with_reducible show RD _ _ _ _ _ _ _ (dm 14 126) _ _); refine RD.mv 0 (dm 14 14336) (dm 14 127) (hK := ?_)) | ((with_reducible show RD _ _ _ _ _ _ _ (dm 14 127) _ _); refine RD.a1 7 ?_) | ((with_reducible show RD _ _ _ _ _ _ _ (dm 14 255) _ _); refine RD.tk 8 (dm 14 15872) (dm 14 511) (hK := ?_)) | ((with_reducible show RD _ _ _ _ _ _ _ (dm 14 511) _ _); refine RD.a1 9 ?_) | ((with_reducible show RD _ _ _ _ _ _ _ (dm 14 1023) _ _); refine RD.a1 10 ?_) | ((with_reducible show RD _ _ _ _ _ _ _ (dm 14 2047) _ _); refine RD.tk 11 (dm 14 12288) (dm 14 4095) (hK := ?_)) | ((with_reducible show RD _ _ _ _ _ _ _ (dm 14 4095) _ _); refine RD.tk 12 (dm 14 8192) (dm 14 8191) (hK := ?_)) | ((with_reducible show RD _ _ _ _ _ _ _ (dm 14 8191) _ _); refine RD.a1 13 ?_) | ((with_reducible show RD _ _ _ _ _ _ 0 _ _ _); refine RD.done (by kernel_rfl) ?_)) | ((with_reducible show RO _ _ 9 _ _ _ _ _ _ _ _); first | ((with_reducible show RO _ _ _ _ _ _ _ (dm 14 127) 7 _ _); (refine RO.cP (dm 14 255) Try.call77 ?_; refine ⟨_, clone_c ns (by omega), ?_⟩; rintro _ _ ⟨s3, rfl, rfl⟩)) | ((with_reducible show RO _ _ _ _ _ _ _ (dm 14 511) 9 _ _); (refine RO.eS (dm 14 1023) (hv := by show EOpS _ _ _ _ ⟨_, .buildSlice _ _ _, _, _, _, _⟩ _; exact EOpS.slitV (by repeat (first | exact Elts.nil | apply Elts.one1 rfl | apply Elts.agg2 rfl)) (by simp) rfl rfl) (h := ?_); rintro _ _ ⟨b51, rfl, rfl⟩)) | ((with_reducible show RO _ _ _ _ _ _ _ (dm 14 1023) 10 _ _); (refine RO.h (dm 14 2047) ?_; show RH _ _ _ ⟨_, _, _, _, _, _⟩ _ _ _ _)) | ((with_reducible show RO _ _ _ _ _ _ _ (dm 14 8191) 13 _ _); (refine RO.h (dm 14 16383) ?_; show RH _ _ _ ⟨_, _, _, _, _, _⟩ _ _ _ _))) | ((with_reducible show RH _ _ _ ⟨some 38, .buildSlice _ _ _, _, _, _, _⟩ _ _ _ _); (refine RH.eff rfl rfl (EOpS.e (EOpS.slitV (by ((repeat (first | exact Elts.nil | apply Elts.one1 rfl | apply Elts.agg2 rfl)); done)) (by simp) rfl rfl)) ?_; rintro _ _ ⟨b38, rfl, rfl⟩)) | ((with_reducible show RH _ _ _ ⟨_, .call ⟨.value (.func 76), _, _⟩, _, _, _, _⟩ _ _ _ _); refine RH.cL Try.call76 ?_; apply Exists.intro; apply And.intro; (focus ((repeat (first | exact LVs.nil | (apply LVs.sl; (with_reducible repeat (exact Has.head)); exact inferInstance; exact rfl))); done)); refine ⟨_, keyOf_c t (by omega), (by intro r H h; first | (obtain ⟨rfl, rfl⟩ := h; exact ⟨inferInstance, inferInstance⟩) | (obtain ⟨_, rfl, rfl⟩ := h; exact ⟨inferInstance, inferInstance⟩) | (obtain ⟨_, _, rfl, rfl⟩ := h; exact ⟨inferInstance, inferInstance⟩) | (obtain ⟨_, _, rfl, rfl, _⟩ := h; exact ⟨inferInstance, inferInstance⟩)), ?_⟩; rintro _ _ ⟨rfl, rfl⟩; refine RL.nm ?_) | ((with_reducible show RH _ _ _ ⟨some 39, .call ⟨.builtin .append, _, _⟩, _, _, _, _⟩ _ _ _ _); (refine RH.appSv rfl rfl rfl (by repeat (first | exact Pick.nil | (apply Pick.cons; (with_reducible repeat (first | exact Rem.head | apply Rem.tail))))) (by first | omega | (simp; omega)) (by first | omega | (simp; omega)) ?_); rintro _ _ ⟨s39, rfl, rfl⟩) | ((with_reducible show RH _ _ _ ⟨some 52, .call ⟨.builtin .append, _, _⟩, _, _, _, _⟩ _ _ _ _); (refine RH.appPI rfl rfl rfl (by repeat (first | exact Pick.nil | (apply Pick.cons; (with_reducible repeat (first | exact Rem.head | apply Rem.tail))))) (by first | omega | (simp; omega)) (by first | omega | (simp; omega)) ?_); rintro _ _ ⟨s52, rfl, rfl⟩) | ((with_reducible show RH _ _ _ ⟨_, .call ⟨.value (.tmp _), _, _⟩, _, _, _, _⟩ _ _ _ _); refine RH.cC hE ?_; refine ⟨_, _, _, .cons (by with_reducible repeat (first | exact Rem.head | apply Rem.tail)) (.cons (by with_reducible repeat (first | exact Rem.head | apply Rem.tail)) .nil), hgt, ?_⟩; rintro _ _ ⟨rfl, rfl⟩; refine RL.nm ?_) | ((with_reducible show RH _ _ _ _ _ _ _ _); first | refine RH.val (hK := ?_) | refine RH.upd (hK := ?_)) | (with_reducible first | refine Run.seq ?_ | refine Run.region ?_ | refine Run.skip ?_ | refine Run.ret ?_) | (with_reducible show Run _ _ (.cond _ _ _) _ _ _; first | refine Run.condF rfl ?_ | refine Run.condD rfl (fun h => ?_) (fun h => ?_)) | (with_reducible first | refine seqN (K := Run _ _ _ _) ?_ | refine seqR ?_))
        all_goals first
          | (exfalso; exact hk (by assumption))
          | (exfalso; omega)
          | skip
        all_goals
          refine ⟨eA, _, [qcells bq n os (.func (.func fk) #[] vs.toArray) s39 s52 bm (tr : Int) 2, hsl tSv (vsv s39) (V ++ [w]), hrows (ps ++ [(w, t)]), hsl (tPair tInt (tS tInt)) (vsv s52) (c.2 ++ [(op, ns)]), hset bm (List.map keyS (c.1 ++ [t])), J], resA, ?_, ?_⟩
        all_goals first
          | exact ⟨s39, s52, ps ++ [(w, t)], rfl, by rw [e1]; rfl, e2⟩
          | (rw [List.map_append, List.map_cons, List.map_nil]; exact (SEnt.pick (B := [hsl tInt (vsv w) t, hrows ps]) (by repeat (first | exact Pick.nil | (apply Pick.cons; (repeat (first | exact Rem.head | apply Rem.tail)))))).trans (SEnt.addrow.trans (SEnt.ch (by repeat (first | exact Ch.nil | refine Ch.same (by repeat (first | exact Rem.head | apply Rem.tail)) ?_)))))
end Go.Proofs.Ytiifdhdhjioefaa

/- The search for a row that is good, over rows of its own: (*impl.rowSearch).round. Proved for this program; conditions: rows of at most 1024 places, elements below 8, at most 150 rows. -/
namespace Go.Proofs.Ytiifdhdhjioefaa
open Go Go.Proofs
set_option linter.unusedVariables false
theorem chosenV_put {xs : List Sv} {ns : List Int} {A : List Sv} {q : Nat} (hq : q < ns.length) (hA : A.length = ns.length) (hx : (ns[q]).toNat < xs.length) :
    ((chosenV xs ns).take q ++ A.drop q).set q (xs[(ns[q]).toNat]) = (chosenV xs ns).take (q + 1) ++ A.drop (q + 1) := by
  have hcl : (chosenV xs ns).length = ns.length := by simp [chosenV]
  have hl : ((chosenV xs ns).take q).length = q := by simp [hcl]; omega
  have e : (chosenV xs ns)[q]'(by omega) = xs[(ns[q]).toNat] := by simp [chosenV, hx]
  rw [List.set_append_right _ _ (by omega), hl, Nat.sub_self, List.drop_eq_getElem_cons (by omega), List.set_cons_zero, List.take_add_one, List.getElem?_eq_getElem (by omega : q < (chosenV xs ns).length), e, List.append_assoc]
  rfl
theorem ps_len0 {ps : PS} {V : List Sv} {X : List (List Int)} (hV : ps.map Prod.fst = V) (hX : ps.map Prod.snd = X) (h : ∀ p ∈ ps, p.1.2.1 = p.2.length) (h1 : 0 < V.length) (h2 : 0 < X.length) : (V[0]).2.1 = (X[0]).length := by
  subst hV; subst hX
  have h3 : 0 < ps.length := by simpa using h1
  simpa using h _ (List.getElem_mem h3)
theorem compR_c (n a : Int) (tb : List Int) (ps : PS) (V : List Sv) (X : List (List Int)) (L : List Int) (sa : Sv) (m size : Nat) (hV : ps.map Prod.fst = V) (hX : ps.map Prod.snd = X) (hm : m = size) (hL : ∀ x ∈ L, 0 ≤ x ∧ x.toNat < X.length) (hap : ApOk n tb (chosen X L) size) :
    Spec Try.prog 197 [vint n, vagg [vint a, vsl 1 (fun x : Int => [vint x]) tb], vlit (vsv sa), vint (m : Int)] [hrows ps, hsl tSv (vsv sa) (chosenV V L)] (fun r S' => ∃ s : Sv, r = vlit (vsv s) ∧ S' = [hsl tInt (vsv s) (applyT n tb (chosen X L) size), hrows ps, hsl tSv (vsv sa) (chosenV V L)]) := by
  subst hV; subst hX; subst hm
  have hL2 : ∀ x ∈ L, 0 ≤ x ∧ x.toNat < ps.length := fun x hx => by have := hL x hx; simpa using this
  have h1 := chosenP_fst hL2
  have h2 := chosenP_snd hL2
  rw [← h1, ← h2]
  rw [← h2] at hap
  refine (Spec.lend (B := [hrows ps, hsl tSv (vsv sa) ((chosenP ps L).map Prod.fst)]) (S := []) (composeTables_c n a tb ((chosenP ps L).map Prod.snd) m hap) ?_ ?_).mono ?_
  · intro c vs fs ha hB hF
    cases ha with
    | cons p1 ha =>
      cases ha with
      | cons p2 ha =>
        cases ha with
        | cons p3 ha =>
          cases p3
          cases hB with
          | cons h3 hB =>
            cases hB with
            | cons h0 hB =>
              cases hB
              obtain ⟨fss, rfl, h4⟩ := h3
              exact .cons p1 (.cons p2 (.cons (list_rows (ownS.frz (t := tSv) h0 fun x hx => hF x (by simp [hx])) fun q hq => rows_are h4 (fun x hx => hF x (by simp only [List.flatten_cons, List.mem_append]; exact .inl hx)) q (chosenP_mem hL2 q hq)) ha))
  · rintro r H ⟨s', rfl, rfl⟩
    exact ⟨inferInstance, inferInstance⟩
  · rintro r S' ⟨H, ⟨s', rfl, rfl⟩, rfl⟩
    exact ⟨s', rfl, rfl⟩
set_option maxRecDepth 10000 in
set_option maxHeartbeats 8000000 in
theorem roundR_c (bq bm : Nat) (s1 s2 : Sv) (n : Int) (os : List (Int × List Int)) (size : Nat) (fk : FuncId) (vs : List Value) (J : HP) (G : List Int → Bool) (hE : Enters Try.prog fk) (hgood : GoodOwn fk vs J G n size)
    (ps0 : PS) (c0 : CS) (tr0 b K : Nat) (ha : algB n os = true) (hps0 : ps0.map Prod.snd = c0.1) (hs0 : QInv n size (c0, tr0, 2)) (hsz : size ≤ 1024) (hK1 : 1 ≤ K) (hKc : K ≤ c0.1.length) :
    Spec Try.prog 192 [vptr bq 0, vint (b : Int), vint (K : Int)] [qcells bq n os (.func (.func fk) #[] vs.toArray) s1 s2 bm (tr0 : Int) 2, hsl tSv (vsv s1) (ps0.map Prod.fst), hrows ps0, hsl (tPair tInt (tS tInt)) (vsv s2) c0.2, hset bm (List.map keyS c0.1), J]
      (QRow bq n os (.func (.func fk) #[] vs.toArray) bm J (rndQ G n size os K b (c0, tr0, 2))) := by
  obtain ⟨R, hR⟩ : ∃ R, rndQ G n size os K b (c0, tr0, 2) = R := ⟨_, rfl⟩
  rw [hR]
  obtain ⟨h1, h8, h4, hops⟩ := algB_at ha
  refine Spec.of_run2 (n := 106) Try.func192 rfl Try.results192 Try.ntmps192 rfl ?_
  repeat' (first | (with_reducible refine RL.done ?_) | (with_reducible refine RL.wanted ?_ ?_; exact rfl) | ((with_reducible show RH _ _ _ _ _ _ _ _); refine RH.val (hK := ?_)) | (with_reducible first | refine Run.seq ?_ | refine Run.region ?_ | refine Run.block ?_) | (with_reducible refine seqN (K := Run _ _ _ _) ?_))
  refine Run.loop (α := Nat × Sv × Sv × CS × Nat × PS) (fun x => [(0, vptr bq 0), (1, vint (b : Int)), (2, vint (K : Int)), (19, vsl 2 (fun y : Int × (List Int) => [vint y.1, vsl 1 (fun x : Int => [vint x]) y.2]) os), (20, vint (os.length : Int)), (21, vint (x.1 : Int))])
    (fun x => [qcells bq n os (.func (.func fk) #[] vs.toArray) x.2.1 x.2.2.1 bm (x.2.2.2.2.1 : Int) 2, hsl tSv (vsv x.2.1) (x.2.2.2.2.2.map Prod.fst), hrows x.2.2.2.2.2, hsl (tPair tInt (tS tInt)) (vsv x.2.2.1) x.2.2.2.1.2, hset bm (List.map keyS x.2.2.2.1.1), J])
    (fun x => x.1 ≤ os.length ∧ (os.zipIdx.drop x.1).foldl (opQ G n size K b) (x.2.2.2.1, x.2.2.2.2.1, 2) = R ∧ QInv n size (x.2.2.2.1, x.2.2.2.2.1, 2) ∧ K ≤ x.2.2.2.1.1.length ∧ x.2.2.2.2.2.map Prod.snd = x.2.2.2.1.1) (fun x => os.length - x.1) (0, s1, s2, c0, tr0, ps0) ⟨Nat.zero_le _, hR, hs0, hKc, hps0⟩ (Ent.of slA chA) ?_
  rintro ⟨j, w1, w2, c1, tr1, ps1⟩ ⟨hj, hrj, hi1, hK1c, hps1⟩
  dsimp only at hj hrj hi1 hK1c hps1 ⊢
  rcases Nat.lt_or_eq_of_le hj with hj9 | hj9
  · have hoj := hops _ (List.getElem_mem hj9)
    have hob := hoj
    simp only [opB, Bool.and_eq_true, decide_eq_true_eq] at hob
    have hdrop : os.zipIdx.drop j = (os[j], j) :: os.zipIdx.drop (j + 1) := by
      rw [List.drop_eq_getElem_cons (by simpa using hj9)]; simp
    rw [hdrop, List.foldl_cons] at hrj
    have hfew1 : c1.1.length ≤ 150 := hi1.few
    have hkf : ((os[j].1.toNat : Nat) : Int) = os[j].1 := by omega
    have hpow := power_c (K : Int) os[j].1.toNat (by omega) (by omega) (by omega)
    obtain ⟨hp0, hpb⟩ := pw_bound (K : Int) (by omega) (by omega) os[j].1.toNat (by omega)
    have hM : ((many K os[j] : Nat) : Int) = pw (K : Int) os[j].1.toNat := by rw [many]; omega
    rw [hkf, ← hM] at hpow
    repeat' (first | (with_reducible refine RL.done ?_) | (with_reducible refine RL.wanted ?_ ?_; exact rfl) | ((with_reducible show RH _ _ _ ⟨some 28, .makeSlice _ _ _, _, _, _, _⟩ _ _ _ _); refine RH.makeZ (α := Sv) rfl (fun s : Sv => [vlit (vsv s)]) (none, 0, 0) (fun c => .cons rfl .nil) rfl rfl (by omega) (by omega) ?_; rintro _ _ ⟨b28, rfl, rfl⟩) | ((with_reducible show RH _ _ _ ⟨some 8, .alloc _, _, _, _, _⟩ _ _ _ _); refine RH.alloc rfl ?_; rintro _ _ ⟨b8, rfl, rfl⟩) | ((with_reducible show RH _ _ _ _ _ _ _ _); first | refine RH.val (hK := ?_) | refine RH.upd (hK := ?_)) | (with_reducible first | refine Run.seq ?_ | refine Run.region ?_ | refine Run.block ?_ | refine Run.skip ?_ | refine Run.exit ?_ | refine Run.ret ?_) | (with_reducible show Run _ _ (.cond _ _ _) _ _ _; refine Run.condD rfl (fun h => ?_) (fun h => ?_)) | (with_reducible first | refine seqN (K := Run _ _ _ _) ?_ | refine seqE ?_ | refine blockE ?_))
    all_goals first
      | (exfalso; omega)
      | skip
    refine Run.sent (T := [hsl tSv (vsv (some ⟨b28, 0, none⟩, os[j].1.toNat, os[j].1.toNat)) (List.replicate os[j].1.toNat (none, 0, 0)), hcells b8 [vint os[j].1, vsl 1 (fun x : Int => [vint x]) os[j].2], qcells bq n os (.func (.func fk) #[] vs.toArray) w1 w2 bm (tr1 : Int) 2, hsl tSv (vsv w1) (ps1.map Prod.fst), hrows ps1, hsl (tPair tInt (tS tInt)) (vsv w2) c1.2, hset bm (List.map keyS c1.1), J]) ((SEnt.pick (B := [harr b28 1 (fun s : Sv => [vlit (vsv s)]) _ (os[j].1.toNat * 1)]) (.cons (by repeat (first | exact Rem.head | apply Rem.tail)) .nil)).trans ((SEnt.pack (rv := vsv) (fun _ => rfl) List.length_replicate.symm).trans (SEnt.ch (by repeat (first | exact Ch.nil | refine Ch.same (by repeat (first | exact Rem.head | apply Rem.tail)) ?_))))) ?_
    refine Run.loop (α := Nat × Sv × Sv × CS × Nat × PS × List Sv) (fun x => [(0, vptr bq 0), (1, vint (b : Int)), (2, vint (K : Int)), (19, vsl 2 (fun y : Int × (List Int) => [vint y.1, vsl 1 (fun x : Int => [vint x]) y.2]) os), (20, vint (os.length : Int)), (21, vint (j : Int)), (7, vint (j : Int)), (8, vptr b8 0), (9, vlit (vsv (some ⟨b28, 0, none⟩, os[j].1.toNat, os[j].1.toNat))), (10, vint (x.1 : Int))])
      (fun x => [hsl tSv (vsv (some ⟨b28, 0, none⟩, os[j].1.toNat, os[j].1.toNat)) x.2.2.2.2.2.2, hcells b8 [vint os[j].1, vsl 1 (fun x : Int => [vint x]) os[j].2], qcells bq n os (.func (.func fk) #[] vs.toArray) x.2.1 x.2.2.1 bm (x.2.2.2.2.1 : Int) 2, hsl tSv (vsv x.2.1) (x.2.2.2.2.2.1.map Prod.fst), hrows x.2.2.2.2.2.1, hsl (tPair tInt (tS tInt)) (vsv x.2.2.1) x.2.2.2.1.2, hset bm (List.map keyS x.2.2.2.1.1), J])
      (fun x => x.1 ≤ many K os[j] ∧ (os.zipIdx.drop (j + 1)).foldl (opQ G n size K b) ((List.range' x.1 (many K os[j] - x.1)).foldl (stepQ G n size os[j] j K b) (x.2.2.2.1, x.2.2.2.2.1, 2)) = R ∧ QInv n size (x.2.2.2.1, x.2.2.2.2.1, 2) ∧ K ≤ x.2.2.2.1.1.length ∧ x.2.2.2.2.2.2.length = os[j].1.toNat ∧ x.2.2.2.2.2.1.map Prod.snd = x.2.2.2.1.1) (fun x => many K os[j] - x.1) (0, w1, w2, c1, tr1, ps1, List.replicate os[j].1.toNat (none, 0, 0)) ⟨Nat.zero_le _, hrj, hi1, hK1c, by simp, hps1⟩ (Ent.of slA chA) ?_
    rintro ⟨i, v1, v2, c2, tr2, ps2, A⟩ ⟨hi, hri, hi2, hK2, hA, hps2⟩
    dsimp only at hi hri hi2 hK2 hA hps2 ⊢
    have hfew2 : c2.1.length ≤ 150 := hi2.few
    have htr2 : tr2 ≤ 100000 := hi2.tr
    refine Run.rowlens (ps := ps2) (by repeat (first | exact Rem.head | apply Rem.tail)) ?_
    intro hlens
    obtain ⟨V, hV⟩ : ∃ V, ps2.map Prod.fst = V := ⟨_, rfl⟩
    have hVl : V.length = c2.1.length := by rw [← hps2, ← hV]; simp
    rw [hV]
    rcases Nat.lt_or_eq_of_le hi with hi9 | hi9
    · have hrg : List.range' i (many K os[j] - i) = i :: List.range' (i + 1) (many K os[j] - (i + 1)) := by
        rw [show many K os[j] - i = (many K os[j] - (i + 1)) + 1 by omega, List.range'_succ]
      rw [hrg, List.foldl_cons] at hri
      have hargs := argsAt_c (i : Int) (K : Int) os[j].1.toNat (by omega) (by omega) (by omega) (by omega)
      rw [hkf] at hargs
      obtain ⟨L, hL⟩ : ∃ L, lowd (i : Int) (K : Int) os[j].1.toNat = L := ⟨_, rfl⟩
      have hll : L.length = os[j].1.toNat := by rw [← hL]; exact lowd_length _ _ _
      have hnum : ∀ x ∈ L, 0 ≤ x ∧ x.toNat < c2.1.length := fun x hx => by
        rw [← hL] at hx
        have := low_in (k := os[j].1.toNat) (i := i) hK1 x hx
        omega
      have hfre : fresh K os[j].1.toNat b i = (L.any (fun x => decide ((b : Int) ≤ x)) || b == 0) := by rw [fresh, hL]
      rw [hL] at hargs
      repeat' (first | (with_reducible first | refine RL.done ?_ | refine RL.app0 ?_) | (with_reducible refine RL.wanted ?_ ?_; exact rfl) | ((with_reducible show RH _ _ _ ⟨_, .call ⟨.value (.func 91), _, _⟩, _, _, _, _⟩ _ _ _ _); refine RH.cP Try.call91 ?_; refine ⟨_, hpow, ?_⟩; rintro _ _ ⟨rfl, rfl⟩) | ((with_reducible show RH _ _ _ ⟨_, .call ⟨.value (.func 92), _, _⟩, _, _, _, _⟩ _ _ _ _); refine RH.cP Try.call92 ?_; refine ⟨_, hargs, ?_⟩; rintro _ _ ⟨s41, rfl, rfl⟩; refine RL.app1 ?_; refine RL.frzI ?_) | ((with_reducible show RH _ _ _ _ _ _ _ _); refine RH.val (hK := ?_)) | (with_reducible first | refine Run.seq ?_ | refine Run.region ?_ | refine Run.block ?_ | refine Run.skip ?_ | refine Run.exit ?_) | (with_reducible show Run _ _ (.cond _ _ _) _ _ _; refine Run.condD rfl (fun h => ?_) (fun h => ?_)) | (with_reducible first | refine seqN (K := Run _ _ _ _) ?_ | refine seqE ?_ | refine blockN ?_ | refine blockE ?_))
      all_goals first
        | (exfalso; omega)
        | skip
      refine Run.loop (α := Nat) (fun q => [(0, vptr bq 0), (1, vint (b : Int)), (2, vint (K : Int)), (19, vsl 2 (fun y : Int × (List Int) => [vint y.1, vsl 1 (fun x : Int => [vint x]) y.2]) os), (20, vint (os.length : Int)), (21, vint (j : Int)), (7, vint (j : Int)), (8, vptr b8 0), (9, vlit (vsv (some ⟨b28, 0, none⟩, os[j].1.toNat, os[j].1.toNat))), (10, vint (i : Int)), (11, vsl 1 (fun x : Int => [vint x]) L), (12, vbool ((L.take q).any (fun x => decide ((b : Int) ≤ x)) || b == 0)), (44, vsl 1 (fun x : Int => [vint x]) L), (45, vint (L.length : Int)), (46, vint (q : Int))])
        (fun q => [hsl tSv (vsv (some ⟨b28, 0, none⟩, os[j].1.toNat, os[j].1.toNat)) ((chosenV V L).take q ++ A.drop q), hcells b8 [vint os[j].1, vsl 1 (fun x : Int => [vint x]) os[j].2], qcells bq n os (.func (.func fk) #[] vs.toArray) v1 v2 bm (tr2 : Int) 2, hsl tSv (vsv v1) V, hrows ps2, hsl (tPair tInt (tS tInt)) (vsv v2) c2.2, hset bm (List.map keyS c2.1), J])
        (fun q => q ≤ L.length) (fun q => L.length - q) 0 (Nat.zero_le _) (Ent.of (by (repeat (first | exact Sl.nil | refine Sl.cons rfl rfl ?_ | refine Sl.cons rfl (congrArg (fun z => vlit (Value.int .i64 z)) (by omega)) ?_ | refine Sl.cons rfl (congrArg vbool (Bool.eq_iff_iff.2 (by simp))) ?_))) (.cons .head (by simp) chA)) ?_
      intro q hq
      have hcl2 : (chosenV V L).length = os[j].1.toNat := by simp [chosenV, hll]
      have hAl : ((chosenV V L).take q ++ A.drop q).length = os[j].1.toNat := by simp [hcl2]; omega
      rcases Nat.lt_or_eq_of_le hq with hq9 | hq9
      · have hxq := hnum _ (List.getElem_mem hq9)
        have hput := chosenV_put (xs := V) (A := A) hq9 (by omega) (show (L[q]).toNat < V.length by omega)
        have hany : (L.take (q + 1)).any (fun x => decide ((b : Int) ≤ x)) = ((L.take q).any (fun x => decide ((b : Int) ≤ x)) || decide ((b : Int) ≤ L[q])) := by
          rw [List.take_add_one, List.getElem?_eq_getElem hq9, List.any_append]; simp
        cases hv : ((L.take q).any (fun x => decide ((b : Int) ≤ x)) || b == 0) with
        | true =>
          have hv2 : ((L.take (q + 1)).any (fun x => decide ((b : Int) ≤ x)) || b == 0) = true := by rw [hany, Bool.or_right_comm, hv]; rfl
          repeat' (first | (with_reducible refine RL.done ?_) | (with_reducible refine RL.wanted ?_ ?_; exact rfl) | ((with_reducible show RH _ _ _ _ _ _ _ _); first | refine RH.val (hK := ?_) | refine RH.upd (hK := ?_)) | (with_reducible show RL _ _ _ (_ :: _) _ _ _; refine RL.guardNoS rfl rfl rfl rfl rfl rfl ?_) | (with_reducible first | refine Run.seq ?_ | refine Run.region ?_ | refine Run.block ?_ | refine Run.skip ?_ | refine Run.exit ?_ | refine Run.ret ?_) | (with_reducible show Run _ _ (.cond _ _ _) _ _ _; first | refine Run.condF rfl ?_ | refine Run.condD rfl (fun h => ?_) (fun h => ?_)) | (with_reducible first | refine seqN (K := Run _ _ _ _) ?_ | refine seqE ?_ | refine seqR ?_ | refine blockN ?_ | refine blockR ?_ | refine blockE ?_))
          all_goals first
            | (exfalso; omega)
            | (with_reducible refine seqN ?_
               exact ⟨q + 1, by omega, by omega, Ent.of (by rw [hv2]; exact slA) (.cons .head (congrArg (fun ys => hsl tSv (vsv (some ⟨b28, 0, none⟩, os[j].1.toNat, os[j].1.toNat)) ys) hput) chA)⟩)
            | trace_state
        | false =>
          have hv2 : ((L.take (q + 1)).any (fun x => decide ((b : Int) ≤ x)) || b == 0) = decide ((b : Int) ≤ L[q]) := by rw [hany, Bool.or_right_comm, hv]; rfl
          repeat' (first | (with_reducible refine RL.done ?_) | (with_reducible refine RL.wanted ?_ ?_; exact rfl) | ((with_reducible show RH _ _ _ _ _ _ _ _); first | refine RH.val (hK := ?_) | refine RH.upd (hK := ?_)) | (with_reducible show RL _ _ _ (_ :: _) _ _ _; refine RL.guardYes rfl rfl rfl rfl ?_) | (with_reducible first | refine Run.seq ?_ | refine Run.region ?_ | refine Run.block ?_ | refine Run.skip ?_ | refine Run.exit ?_) | (with_reducible show Run _ _ (.cond _ _ _) _ _ _; first | refine Run.condT rfl ?_ | refine Run.condD rfl (fun h => ?_) (fun h => ?_)) | (with_reducible first | refine seqN (K := Run _ _ _ _) ?_ | refine seqE ?_ | refine blockN ?_ | refine blockE ?_))
          all_goals first
            | (exfalso; omega)
            | (with_reducible refine seqN ?_
               exact ⟨q + 1, by omega, by omega, Ent.of (by rw [hv2]; (repeat (first | exact Sl.nil | refine Sl.cons rfl rfl ?_ | refine Sl.cons rfl (congrArg (fun z => vlit (Value.int .i64 z)) (by omega)) ?_))) (.cons .head (congrArg (fun ys => hsl tSv (vsv (some ⟨b28, 0, none⟩, os[j].1.toNat, os[j].1.toNat)) ys) hput) chA)⟩)
            | trace_state
      · have hAe : (chosenV V L).take q ++ A.drop q = chosenV V L := by rw [hq9, List.drop_of_length_le (by omega), List.append_nil, List.take_of_length_le (by omega)]
        have hte : ((L.take q).any (fun x => decide ((b : Int) ≤ x)) || b == 0) = fresh K os[j].1.toNat b i := by rw [hfre, hq9, List.take_length]
        rw [hAe] at hAl ⊢
        rw [hte]
        cases hfr : fresh K os[j].1.toNat b i with
        | false =>
          rw [stepQ_skip hfr] at hri
          repeat' (first | (with_reducible refine RL.done ?_) | (with_reducible refine RL.wanted ?_ ?_; exact rfl) | ((with_reducible show RH _ _ _ _ _ _ _ _); first | refine RH.val (hK := ?_) | refine RH.upd (hK := ?_)) | (with_reducible show RL _ _ _ (_ :: _) _ _ _; refine RL.guardYes rfl rfl rfl rfl ?_) | (with_reducible first | refine Run.seq ?_ | refine Run.region ?_ | refine Run.block ?_ | refine Run.skip ?_ | refine Run.exit ?_) | (with_reducible show Run _ _ (.cond _ _ _) _ _ _; first | refine Run.condT rfl ?_ | refine Run.condD rfl (fun h => ?_) (fun h => ?_)) | (with_reducible first | refine seqN (K := Run _ _ _ _) ?_ | refine seqE ?_ | refine blockN ?_ | refine blockE ?_))
          all_goals first
            | (exfalso; omega)
            | (with_reducible refine seqN ?_
               exact ⟨(i + 1, v1, v2, c2, tr2, ps2, chosenV V L), ⟨by dsimp only; omega, hri, hi2, hK2, hcl2, hps2⟩, by dsimp only; omega, Ent.of (by dsimp only; exact slA) (by dsimp only; rw [hV]; exact chA)⟩)
            | trace_state
        | true =>
          by_cases ht : tr2 = 100000
          · rw [stepQ_many rfl hfr ht, foldQ_end (fun _ _ h => stepQ_end h) _ _ (by dsimp only; decide), foldQ_end (fun _ _ h => opQ_end h) _ _ (by dsimp only; decide)] at hri
            subst hri
            repeat' (first | (with_reducible refine RL.done ?_) | (with_reducible refine RL.wanted ?_ ?_; exact rfl) | ((with_reducible show RH _ _ _ _ _ _ _ _); first | refine RH.val (hK := ?_) | refine RH.upd (hK := ?_)) | (with_reducible show RL _ _ _ (_ :: _) _ _ _; refine RL.guardNoS rfl rfl rfl rfl rfl rfl ?_) | (with_reducible first | refine Run.seq ?_ | refine Run.region ?_ | refine Run.block ?_ | refine Run.skip ?_ | refine Run.exit ?_ | refine Run.ret ?_) | (with_reducible show Run _ _ (.cond _ _ _) _ _ _; first | refine Run.condF rfl ?_ | refine Run.condD rfl (fun h => ?_) (fun h => ?_)) | (with_reducible first | refine seqN (K := Run _ _ _ _) ?_ | refine seqE ?_ | refine seqR ?_ | refine blockN ?_ | refine blockR ?_ | refine blockE ?_))
            all_goals first
              | (exfalso; omega)
              | (refine ⟨eA, _, [qcells bq n os (.func (.func fk) #[] vs.toArray) v1 v2 bm (tr2 : Int) 3, hsl tSv (vsv v1) V, hrows ps2, hsl (tPair tInt (tS tInt)) (vsv v2) c2.2, hset bm (List.map keyS c2.1), J], resA, ?_, ?_⟩
                 · exact SEnt.ch chA
                 · exact ⟨v1, v2, ps2, rfl, by rw [hV], hps2⟩)
              | trace_state
          · have hc0 : 0 < c2.1.length := by omega
            have hv0 : 0 < V.length := by omega
            have hrow0 : (c2.1[0]'hc0).length = size := (hi2.inv.row _ (List.getElem_mem hc0)).1
            have hlen0 : (V[0]'hv0).2.1 = size := (ps_len0 hV hps2 hlens hv0 hc0).trans hrow0
            have hap := opAp' hi2.inv h1 h8 (by omega) hoj hll hnum
            have htel := applyT_el hap (opB_tab hoj)
            have hcomp := compR_c n os[j].1 os[j].2 ps2 V c2.1 L (some ⟨b28, 0, none⟩, os[j].1.toNat, os[j].1.toNat) (V[0]'hv0).2.1 size hV hps2 hlen0 hnum hap
            have hQ : QInv n size (c2, tr2 + 1, 2) := ⟨hi2.inv, hi2.few, by show tr2 + 1 ≤ 100000; omega, .inr (.inl rfl)⟩
            have hadd := fun (w1 w2 w : Sv) => qaddR_c bq bm w1 w2 w n os size fk vs J G hE hgood ps2 V c2 (tr2 + 1) (applyT n os[j].2 (chosen c2.1 L) size) (j : Int) L hV hps2 hQ h8 hsz (applyT_length _ _ _ _) htel (by omega)
            have hi3 := hQ.add (G := G) (sp := ((j : Int), L)) (applyT_length n os[j].2 (chosen c2.1 L) size) htel
            have hmore := addQ_more G (c2, tr2 + 1, 2) (applyT n os[j].2 (chosen c2.1 L) size) ((j : Int), L)
            rw [stepQ_add rfl hfr ht, hL] at hri
            obtain ⟨S3, hS3⟩ : ∃ S, addQ G (c2, tr2 + 1, 2) (applyT n os[j].2 (chosen c2.1 L) size) ((j : Int), L) = S := ⟨_, rfl⟩
            simp only [hS3] at hadd hi3 hmore
            have hri : List.foldl (opQ G n size K b) (List.foldl (stepQ G n size os[j] j K b) S3 (List.range' (i + 1) (many K os[j] - (i + 1)))) (os.zipIdx.drop (j + 1)) = R := by rw [← hS3]; exact hri
            obtain ⟨c3, tr3, st3⟩ := S3
            rw [show ((tr2 + 1 : Nat) : Int) = (tr2 : Int) + 1 by omega] at hadd
            dsimp only at hmore
            have hadd := hadd v1 v2
            repeat' (first | (with_reducible refine RL.done ?_) | (with_reducible refine RL.wanted ?_ ?_; exact rfl) | ((with_reducible show Run _ _ (.region 21 _ true) _ _ _); refine Run.regionD (fun i => i == 15 || i == 18) rfl ?_; change RD _ _ _ _ _ _ 20 (dm 20 0) _ _) | ((with_reducible show RD _ _ 21 _ _ _ _ _ _ _); first | ((with_reducible show RD _ _ _ _ _ _ _ (dm 20 0) _ _); refine RD.tk 1 (dm 20 819260) (dm 20 2) (hK := ?_)) | ((with_reducible show RD _ _ _ _ _ _ _ (dm 20 2) _ _); refine RD.tk 2 (dm 20 819256) (dm 20 6) (hK := ?_)) | ((with_reducible show RD _ _ _ _ _ _ _ (dm 20 6) _ _); refine RD.tk 3 (dm 20 819248) (dm 20 14) (hK := ?_)) | ((with_reducible show RD _ _ _ _ _ _ _ (dm 20 14) _ _); refine RD.tk 4 (dm 20 819232) (dm 20 30) (hK := ?_)) | ((with_reducible show RD _ _ _ _ _ _ _ (dm 20 30) _ _); refine RD.tk 5 (dm 20 819200) (dm 20 62) (hK := ?_)) | ((with_reducible show RD _ _ _ _ _ _ _ (dm 20 62) _ _); refine RD.tk 6 (dm 20 819200) (dm 20 126) (hK := ?_)) | ((with_reducible show RD _ _ _ _ _ _ _ (dm 20 126) _ _); refine RD.tk 7 (dm 20 819200) (dm 20 254) (hK := ?_)) | ((with_reducible show RD _ _ _ _ _ _ _ (dm 20 254) _ _); refine RD.tk 8 (dm 20 851456) (dm 20 510) (hK := ?_)) | ((with_reducible show RD _ _ _ _ _ _ _ (dm 20 510) _ _); refine RD.tk 9 (dm 20 850944) (dm 20 1022) (hK := ?_)) | ((with_reducible show RD _ _ _ _ _ _ _ (dm 20 1022) _ _); refine RD.tk 10 (dm 20 849920) (dm 20 2046) (hK := ?_)) | ((with_reducible show RD _ _ _ _ _ _ _ (dm 20 2046) _ _); refine RD.tk 11 (dm 20 847872) (dm 20 4094) (hK := ?_)) | ((with_reducible show RD _ _ _ _ _ _ _ (dm 20 4094) _ _); refine RD.tk 12 (dm 20 843776) (dm 20 8190) (hK := ?_)) | ((with_reducible show RD _ _ _ _ _ _ _ (dm 20 8190) _ _); refine RD.tk 13 (dm 20 835584) (dm 20 16382) (hK := ?_)) | ((with_reducible show RD _ _ _ _ _ _ _ (dm 20 16382) _ _); refine RD.tk 14 (dm 20 819200) (dm 20 32766) (hK := ?_)) | ((with_reducible show RD _ _ _ _ _ _ _ (dm 20 32766) _ _); refine RD.mv 0 (dm 20 786432) (dm 20 32767) (hK := ?_)) | ((with_reducible show RD _ _ _ _ _ _ _ (dm 20 32767) _ _); refine RD.mv 16 (dm 20 786432) (dm 20 98303) (hK := ?_)) | ((with_reducible show RD _ _ _ _ _ _ _ (dm 20 98303) _ _); refine RD.mv 17 (dm 20 786432) (dm 20 229375) (hK := ?_)) | ((with_reducible show RD _ _ _ _ _ _ _ (dm 20 229375) _ _); refine RD.a1 15 ?_) | ((with_reducible show RD _ _ _ _ _ _ _ (dm 20 262143) _ _); refine RD.a1 18 ?_) | ((with_reducible show RD _ _ _ _ _ _ _ (dm 20 524287) _ _); refine RD.tk 19 (dm 20 0) (dm 20 1048575) (hK := ?_)) | ((with_reducible show RD _ _ _ _ _ _ 0 _ _ _); refine RD.done (by kernel_rfl) ?_)) | ((with_reducible show RO _ _ 21 _ _ _ _ _ _ _ _); first | ((with_reducible show RO _ _ _ _ _ _ _ (dm 20 229375) 15 _ _); (refine RO.h (dm 20 262143) ?_; show RH _ _ _ ⟨_, _, _, _, _, _⟩ _ _ _ _)) | ((with_reducible show RO _ _ _ _ _ _ _ (dm 20 262143) 18 _ _); (refine RO.h (dm 20 524287) ?_; show RH _ _ _ ⟨_, _, _, _, _, _⟩ _ _ _ _))) | ((with_reducible show RH _ _ _ ⟨_, .call ⟨.value (.func 197), _, _⟩, _, _, _, _⟩ _ _ _ _); refine RH.cW Try.call197 ?_; refine ⟨_, _, _, (by repeat (first | exact Pick.nil | (apply Pick.cons; (with_reducible repeat (first | exact Rem.head | apply Rem.tail))))), hcomp, ?_⟩; rintro _ _ ⟨s100, rfl, rfl⟩; refine RL.nm ?_) | ((with_reducible show RH _ _ _ ⟨_, .call ⟨.value (.func 191), _, _⟩, _, _, _, _⟩ _ _ _ _); refine RH.cW Try.call191 ?_; refine ⟨_, _, _, (by repeat (first | exact Pick.nil | (apply Pick.cons; (with_reducible repeat (first | exact Rem.head | apply Rem.tail))))), hadd s100, ?_⟩; rintro _ _ ⟨u1, u2, ps3, rfl, rfl, hps3⟩; refine RL.nm ?_) | ((with_reducible show RH _ _ _ _ _ _ _ _); first | refine RH.val (hK := ?_) | refine RH.upd (hK := ?_)) | (with_reducible show RL _ _ _ (_ :: _) _ _ _; refine RL.guardNoS rfl rfl rfl rfl rfl rfl ?_) | (with_reducible first | refine Run.seq ?_ | refine Run.region ?_ | refine Run.block ?_ | refine Run.skip ?_ | refine Run.exit ?_ | refine Run.ret ?_) | (with_reducible show Run _ _ (.cond _ _ _) _ _ _; first | refine Run.condF rfl ?_ | refine Run.condD rfl (fun h => ?_) (fun h => ?_) | refine Run.condND rfl (fun h => ?_) (fun h => ?_)) | (with_reducible first | refine seqN (K := Run _ _ _ _) ?_ | refine seqE ?_ | refine seqR ?_ | refine blockN ?_ | refine blockR ?_ | refine blockE ?_))
            all_goals first
              | (exfalso; omega)
              | (obtain rfl : st3 = 2 := by assumption
                 with_reducible refine seqN ?_
                 exact ⟨(i + 1, u1, u2, c3, tr3, ps3, chosenV V L), ⟨by dsimp only; omega, hri, hi3, by dsimp only; omega, hcl2, hps3⟩, by dsimp only; omega, Ent.of (by dsimp only; exact slA) (by dsimp only; exact chA)⟩)
              | (have hn2 : ¬ st3 = 2 := by assumption
                 rw [foldQ_end (fun _ _ h => stepQ_end h) _ _ (by exact hn2), foldQ_end (fun _ _ h => opQ_end h) _ _ (by exact hn2)] at hri
                 subst hri
                 refine ⟨eA, _, [qcells bq n os (.func (.func fk) #[] vs.toArray) u1 u2 bm (tr3 : Int) st3, hsl tSv (vsv u1) (ps3.map Prod.fst), hrows ps3, hsl (tPair tInt (tS tInt)) (vsv u2) c3.2, hset bm (List.map keyS c3.1), J], resA, ?_, ?_⟩
                 · exact SEnt.ch chA
                 · exact ⟨u1, u2, ps3, by show _ = vbool (decide (st3 = 2)); rw [decide_eq_false hn2]; rfl, rfl, hps3⟩)
              | trace_state
    · rw [hi9, Nat.sub_self] at hri
      repeat' (first | (with_reducible first | refine RL.done ?_ | refine RL.app0 ?_) | (with_reducible refine RL.wanted ?_ ?_; exact rfl) | ((with_reducible show RH _ _ _ ⟨_, .call ⟨.value (.func 91), _, _⟩, _, _, _, _⟩ _ _ _ _); refine RH.cP Try.call91 ?_; refine ⟨_, hpow, ?_⟩; rintro _ _ ⟨rfl, rfl⟩) | ((with_reducible show RH _ _ _ _ _ _ _ _); refine RH.val (hK := ?_)) | (with_reducible first | refine Run.seq ?_ | refine Run.region ?_ | refine Run.block ?_ | refine Run.skip ?_ | refine Run.exit ?_) | (with_reducible show Run _ _ (.cond _ _ _) _ _ _; refine Run.condD rfl (fun h => ?_) (fun h => ?_)) | (with_reducible first | refine seqN (K := Run _ _ _ _) ?_ | refine seqE ?_ | refine blockN ?_ | refine blockE ?_))
      all_goals first
        | (exfalso; omega)
        | (with_reducible refine seqN ?_
           exact ⟨(j + 1, v1, v2, c2, tr2, ps2), ⟨by dsimp only; omega, hri, hi2, hK2, hps2⟩, by dsimp only; omega, Ent.of (by dsimp only; exact slA) (by dsimp only; rw [hV]; exact chA)⟩)
        | trace_state
  · rw [List.drop_of_length_le (by simp; omega)] at hrj
    subst hrj
    repeat' (first | (with_reducible refine RL.done ?_) | (with_reducible refine RL.wanted ?_ ?_; exact rfl) | ((with_reducible show RH _ _ _ ⟨some 8, .alloc _, _, _, _, _⟩ _ _ _ _); refine RH.alloc rfl ?_; rintro _ _ ⟨b8, rfl, rfl⟩) | ((with_reducible show RH _ _ _ _ _ _ _ _); first | refine RH.val (hK := ?_) | refine RH.upd (hK := ?_)) | (with_reducible first | refine Run.seq ?_ | refine Run.region ?_ | refine Run.block ?_ | refine Run.skip ?_ | refine Run.exit ?_ | refine Run.ret ?_) | (with_reducible show Run _ _ (.cond _ _ _) _ _ _; refine Run.condD rfl (fun h => ?_) (fun h => ?_)) | (with_reducible first | refine seqN (K := Run _ _ _ _) ?_ | refine seqE ?_ | refine blockE ?_))
    all_goals first
      | (exfalso; omega)
      | (refine ⟨eA, _, [qcells bq n os (.func (.func fk) #[] vs.toArray) w1 w2 bm (tr1 : Int) 2, hsl tSv (vsv w1) (ps1.map Prod.fst), hrows ps1, hsl (tPair tInt (tS tInt)) (vsv w2) c1.2, hset bm (List.map keyS c1.1), J], resA, ?_, ?_⟩
         · exact SEnt.ch chA
         · exact ⟨w1, w2, ps1, rfl, rfl, hps1⟩)
      | trace_state
end Go.Proofs.Ytiifdhdhjioefaa

/- The search for a row that is good, over rows of its own: impl.searchRows. Proved for this program; conditions: rows of at most 1024 places, elements below 8, up to 3 first rows. -/
namespace Go.Proofs.Ytiifdhdhjioefaa
open Go Go.Proofs
set_option linter.unusedVariables false
theorem ps_drop {ps : PS} {V : List Sv} {X : List (List Int)} (hV : ps.map Prod.fst = V) (hX : ps.map Prod.snd = X) {i : Nat} (h1 : i < V.length) (h2 : i < X.length) : ps.drop i = (V[i], X[i]) :: ps.drop (i + 1) := by
  subst hV; subst hX
  have h3 : i < ps.length := by simpa using h1
  rw [List.drop_eq_getElem_cons h3]
  congr 1
  simp
set_option maxRecDepth 10000 in
set_option maxHeartbeats 8000000 in
theorem searchRowsP_c (n : Int) (os : List (Int × List Int)) (size : Nat) (fk : FuncId) (vs : List Value) (J : HP) (G : List Int → Bool) (hE : Enters Try.prog fk) (hgood : GoodOwn fk vs J G n size)
    (F : List (List Int)) (sF : Sv) (pF : PS) (hpF : pF.map Prod.snd = F) (ha : algB n os = true) (hF : DInv n size F) (hsz : size ≤ 1024) (hF1 : 1 ≤ F.length) (hF3 : F.length ≤ 3) :
    Spec Try.prog 172 [vagg [vint n, vsl 2 (fun y : Int × (List Int) => [vint y.1, vsl 1 (fun x : Int => [vint x]) y.2]) os], vlit (vsv sF), vlit (.func (.func fk) #[] vs.toArray)] [hsl tSv (vsv sF) (pF.map Prod.fst), hrows pF, J]
      (fun r S' => ∃ (bq bm : Nat) (u1 u2 : Sv), r = vptr bq 0 ∧ S' = [qcells bq n os (.func (.func fk) #[] vs.toArray) u1 u2 bm ((seaQ G n size os F).2.1 : Int) (seaQ G n size os F).2.2, hsl (tS tInt) (vsv u1) (seaQ G n size os F).1.1, hsl (tPair tInt (tS tInt)) (vsv u2) (seaQ G n size os F).1.2, hset bm (List.map keyS (seaQ G n size os F).1.1), J]) := by
  obtain ⟨R, hR⟩ : ∃ R, seaQ G n size os F = R := ⟨_, rfl⟩
  rw [hR]
  obtain ⟨h1, h8, h4, hops⟩ := algB_at ha
  have hFr : ∀ t ∈ F, t.length = size ∧ elB n t = true := hF.row
  obtain ⟨VF, hVF⟩ : ∃ V, pF.map Prod.fst = V := ⟨_, rfl⟩
  have hVl : VF.length = F.length := by rw [← hpF, ← hVF]; simp
  rw [hVF]
  refine Spec.of_run2 (n := 52) Try.func172 rfl Try.results172 Try.ntmps172 rfl ?_
  repeat' (first | (with_reducible refine RL.done ?_) | (with_reducible refine RL.wanted ?_ ?_; exact rfl) | ((with_reducible show RH _ _ _ ⟨some 3, .box _ _, _, _, _, _⟩ _ _ _ _); (refine RH.boxAgg rfl rfl ?_; rintro _ _ ⟨b3, rfl, rfl⟩)) | ((with_reducible show RH _ _ _ ⟨some 14, .makeMap _ _, _, _, _, _⟩ _ _ _ _); (refine RH.makeSet rfl ?_); rintro _ _ ⟨b14, rfl, rfl⟩) | ((with_reducible show RH _ _ _ ⟨some 16, .box _ _, _, _, _, _⟩ _ _ _ _); (refine RH.boxAgg rfl rfl ?_; rintro _ _ ⟨b16, rfl, rfl⟩)) | ((with_reducible show RH _ _ _ _ _ _ _ _); refine RH.val (hK := ?_)) | (with_reducible first | refine Run.seq ?_ | refine Run.region ?_ | refine Run.block ?_) | (with_reducible refine seqN (K := Run _ _ _ _) ?_))
  refine Run.sent (T := [qcells b16 n os (.func (.func fk) #[] vs.toArray) (none, 0, 0) (none, 0, 0) b14 0 2, hsl tSv (vsv (none, 0, 0)) [], hrows [], hsl (tPair tInt (tS tInt)) (vsv (none, 0, 0)) [], hset b14 [], J, hsl tSv (vsv sF) VF, hrows pF]) (((SEnt.nil tSv _).trans ((SEnt.nil (tPair tInt (tS tInt)) _).trans SEnt.nilrows)).trans ((SEnt.pick (B := [qcells b16 n os (.func (.func fk) #[] vs.toArray) (none, 0, 0) (none, 0, 0) b14 0 2, hsl tSv (vsv (none, 0, 0)) [], hrows [], hsl (tPair tInt (tS tInt)) (vsv (none, 0, 0)) [], hset b14 [], J, hsl tSv (vsv sF) VF, hrows pF]) (by repeat (first | exact Pick.nil | (apply Pick.cons; (repeat (first | exact Rem.head | apply Rem.tail)))))).trans (SEnt.ch (by repeat (first | exact Ch.nil | refine Ch.same (by repeat (first | exact Rem.head | apply Rem.tail)) ?_))))) ?_
  refine Run.loop (α := Nat × Sv × Sv × CS × Nat × PS) (fun x => [(7, vptr b16 0), (17, vlit (vsv sF)), (18, vint (VF.length : Int)), (19, vint (x.1 : Int))])
    (fun x => [qcells b16 n os (.func (.func fk) #[] vs.toArray) x.2.1 x.2.2.1 b14 (x.2.2.2.2.1 : Int) 2, hsl tSv (vsv x.2.1) (x.2.2.2.2.2.map Prod.fst), hrows x.2.2.2.2.2, hsl (tPair tInt (tS tInt)) (vsv x.2.2.1) x.2.2.2.1.2, hset b14 (List.map keyS x.2.2.2.1.1), J, hsl tSv (vsv sF) VF, hrows (pF.drop x.1)])
    (fun x => x.1 ≤ F.length ∧ initQ G F x.1 = (x.2.2.2.1, x.2.2.2.2.1, 2) ∧ x.2.2.2.2.2.map Prod.snd = x.2.2.2.1.1) (fun x => F.length - x.1) (0, (none, 0, 0), (none, 0, 0), ([], []), 0, []) ⟨Nat.zero_le _, rfl, rfl⟩ (Ent.of slA .refl) ?_
  rintro ⟨p, w1, w2, c, tr, ps⟩ ⟨hp, hI, hps⟩
  dsimp only at hp hI hps ⊢
  have hQ : QInv n size (c, tr, 2) := by
    have := initQ_inv hFr G p hp
    rw [hI] at this; exact this
  obtain ⟨V, hV⟩ : ∃ V, ps.map Prod.fst = V := ⟨_, rfl⟩
  rw [hV]
  rcases Nat.lt_or_eq_of_le hp with hp9 | hp9
  · obtain ⟨hml, hme⟩ := hFr _ (List.getElem_mem hp9)
    have hpV : p < VF.length := by omega
    rw [ps_drop hVF hpF hpV hp9]
    have hadd := qaddR_c b16 b14 w1 w2 VF[p] n os size fk vs J G hE hgood ps V c tr F[p] (-1) [(p : Int)] hV hps hQ h8 hsz hml hme (by simp)
    have hstep : initQ G F (p + 1) = addQ G (c, tr, 2) F[p] (-1, [(p : Int)]) := by
      rw [initQ, hI, List.getD_eq_getElem?_getD, List.getElem?_eq_getElem hp9]; rfl
    obtain ⟨S3, hS3⟩ : ∃ S, addQ G (c, tr, 2) F[p] (-1, [(p : Int)]) = S := ⟨_, rfl⟩
    rw [hS3] at hadd hstep
    obtain ⟨c3, tr3, st3⟩ := S3
    refine Run.sent (T := [hsl tInt (vsv VF[p]) F[p], hrows (pF.drop (p + 1)), qcells b16 n os (.func (.func fk) #[] vs.toArray) w1 w2 b14 (tr : Int) 2, hsl tSv (vsv w1) V, hrows ps, hsl (tPair tInt (tS tInt)) (vsv w2) c.2, hset b14 (List.map keyS c.1), J, hsl tSv (vsv sF) VF]) ((SEnt.pick (B := [hrows ((VF[p], F[p]) :: pF.drop (p + 1))]) (.cons (by repeat (first | exact Rem.head | apply Rem.tail)) .nil)).trans (SEnt.rowout.trans (SEnt.ch (by repeat (first | exact Ch.nil | refine Ch.same (by repeat (first | exact Rem.head | apply Rem.tail)) ?_))))) ?_
    repeat' (first | (with_reducible refine RL.done ?_) | (with_reducible refine RL.wanted ?_ ?_; exact rfl) | ((with_reducible show RH _ _ _ ⟨some 27, .buildSlice _ _ _, _, _, _, _⟩ _ _ _ _); refine RH.eff rfl rfl (EOpS.e (EOpS.slit (fun x : Int => [vint x]) _ (fun _ _ => rfl) (by repeat (first | exact Elts.nil | (apply Elts.cons; exact rfl; exact CellsOf.one))) rfl rfl)) ?_; rintro _ _ ⟨b27, rfl, rfl⟩; refine RL.frzA rfl ?_) | ((with_reducible show RH _ _ _ ⟨some 23, .load _ _, _, _, _, _⟩ _ _ _ _); refine RH.val rfl rfl (VOp.loadHS rfl (by repeat (first | exact Has.head | apply Has.tail)) hpV) ?_) | ((with_reducible show RH _ _ _ ⟨_, .call ⟨.value (.func 191), _, _⟩, _, _, _, _⟩ _ _ _ _); refine RH.cW Try.call191 ?_; refine ⟨_, _, _, (by repeat (first | exact Pick.nil | (apply Pick.cons; (with_reducible repeat (first | exact Rem.head | apply Rem.tail))))), hadd, ?_⟩; rintro _ _ ⟨u1, u2, ps3, rfl, rfl, hps3⟩; refine RL.nm ?_) | ((with_reducible show RH _ _ _ _ _ _ _ _); refine RH.val (hK := ?_)) | (with_reducible first | refine Run.seq ?_ | refine Run.region ?_ | refine Run.block ?_ | refine Run.skip ?_ | refine Run.exit ?_ | refine Run.ret ?_) | (with_reducible show Run _ _ (.cond _ _ _) _ _ _; first | refine Run.condD rfl (fun h => ?_) (fun h => ?_) | refine Run.condND rfl (fun h => ?_) (fun h => ?_)) | (with_reducible first | refine seqN (K := Run _ _ _ _) ?_ | refine seqE ?_ | refine seqR ?_ | refine blockN ?_ | refine blockR ?_ | refine blockE ?_))
    all_goals first
      | (exfalso; omega)
      | (obtain rfl : st3 = 2 := by assumption
         with_reducible refine seqN ?_
         exact ⟨(p + 1, u1, u2, c3, tr3, ps3), ⟨by dsimp only; omega, hstep, hps3⟩, by dsimp only; omega, Ent.of (by dsimp only; exact slA) (by dsimp only; exact chA)⟩)
      | (have hn2 : ¬ st3 = 2 := by assumption
         have hRe : R = (c3, tr3, st3) := by
           have h9 := initQ_end (G := G) (F := F) (p := p + 1) (by rw [hstep]; exact hn2) (F.length - (p + 1))
           rw [show p + 1 + (F.length - (p + 1)) = F.length by omega] at h9
           rw [← hR, seaQ, h9, hstep]
           exact findQ_end (fun h => hn2 h.1)
         subst hRe
         refine ⟨eA, _, [qcells b16 n os (.func (.func fk) #[] vs.toArray) u1 u2 b14 (tr3 : Int) st3, hsl (tS tInt) (vsv u1) c3.1, hsl (tPair tInt (tS tInt)) (vsv u2) c3.2, hset b14 (List.map keyS c3.1), J], resA, ?_, ?_⟩
         · dsimp only at hps3
           exact (SEnt.pick (B := [hsl tSv (vsv u1) (ps3.map Prod.fst), hrows ps3]) (by repeat (first | exact Pick.nil | (apply Pick.cons; (repeat (first | exact Rem.head | apply Rem.tail)))))).trans (SEnt.packrows.trans (by rw [hps3]; exact SEnt.ch (by repeat (first | exact Ch.nil | refine Ch.same (by repeat (first | exact Rem.head | apply Rem.tail)) ?_))))
         · exact ⟨b16, b14, u1, u2, rfl, rfl⟩)
      | trace_state
  · have hR2 : findQ G n size os 152 (c, tr, 2) 0 = R := by rw [← hR, seaQ, ← hp9, hI]
    have hc1 : 1 ≤ c.1.length := by
      obtain ⟨q, hq⟩ : ∃ q, F.length = q + 1 := ⟨F.length - 1, by omega⟩
      have := initQ_pos (G := G) (F := F) q
      rw [← hq, ← hp9, hI] at this; exact this
    repeat' (first | (with_reducible refine RL.done ?_) | (with_reducible refine RL.wanted ?_ ?_; exact rfl) | ((with_reducible show RH _ _ _ ⟨some 27, .buildSlice _ _ _, _, _, _, _⟩ _ _ _ _); refine RH.eff rfl rfl (EOpS.e (EOpS.slit (fun x : Int => [vint x]) _ (fun _ _ => rfl) (by repeat (first | exact Elts.nil | (apply Elts.cons; exact rfl; exact CellsOf.one))) rfl rfl)) ?_; rintro _ _ ⟨b27, rfl, rfl⟩) | ((with_reducible show RH _ _ _ _ _ _ _ _); refine RH.val (hK := ?_)) | (with_reducible first | refine Run.seq ?_ | refine Run.region ?_ | refine Run.block ?_ | refine Run.skip ?_ | refine Run.exit ?_) | (with_reducible show Run _ _ (.cond _ _ _) _ _ _; refine Run.condD rfl (fun h => ?_) (fun h => ?_)) | (with_reducible first | refine seqN (K := Run _ _ _ _) ?_ | refine seqE ?_ | refine blockE ?_))
    all_goals first
      | (exfalso; omega)
      | skip
    refine Run.loop (α := Nat × Sv × Sv × CS × Nat × Nat × PS) (fun x => [(7, vptr b16 0), (10, vint (x.1 : Int))])
      (fun x => [qcells b16 n os (.func (.func fk) #[] vs.toArray) x.2.1 x.2.2.1 b14 (x.2.2.2.2.1 : Int) 2, hsl tSv (vsv x.2.1) (x.2.2.2.2.2.2.map Prod.fst), hrows x.2.2.2.2.2.2, hsl (tPair tInt (tS tInt)) (vsv x.2.2.1) x.2.2.2.1.2, hset b14 (List.map keyS x.2.2.2.1.1), J])
      (fun x => findQ G n size os x.2.2.2.2.2.1 (x.2.2.2.1, x.2.2.2.2.1, 2) x.1 = R ∧ QInv n size (x.2.2.2.1, x.2.2.2.2.1, 2) ∧ 1 ≤ x.2.2.2.1.1.length ∧ 151 - x.1 ≤ x.2.2.2.2.2.1 ∧ x.2.2.2.2.2.2.map Prod.snd = x.2.2.2.1.1) (fun x => x.2.2.2.2.2.1) (0, w1, w2, c, tr, 152, ps) ⟨hR2, hQ, hc1, by dsimp only; omega, hps⟩ (Ent.of slA (by dsimp only; rw [hV]; exact chA)) ?_
    rintro ⟨b, v1, v2, c2, tr2, f, ps2⟩ ⟨hrun, hQ2, hc2, hf, hps2⟩
    dsimp only at hrun hQ2 hc2 hf hps2 ⊢
    have hfew2 : c2.1.length ≤ 150 := hQ2.few
    have hVl2 : (ps2.map Prod.fst).length = c2.1.length := by rw [← hps2]; simp
    by_cases hlt : b < c2.1.length
    · obtain ⟨f, rfl⟩ : ∃ g, f = g + 1 := ⟨f - 1, by omega⟩
      rw [findQ_go rfl hlt] at hrun
      have hrnd := roundR_c b16 b14 v1 v2 n os size fk vs J G hE hgood ps2 c2 tr2 b c2.1.length ha hps2 hQ2 hsz hc2 (Nat.le_refl _)
      obtain ⟨hi3, hmore⟩ := rndQ_inv (G := G) (b := b) ha (by omega) hQ2 hc2 (Nat.le_refl _)
      obtain ⟨S3, hS3⟩ : ∃ S, rndQ G n size os c2.1.length b (c2, tr2, 2) = S := ⟨_, rfl⟩
      have hrun : findQ G n size os f S3 c2.1.length = R := by rw [← hS3]; exact hrun
      (try dsimp only at hi3 hmore)
      rw [hS3] at hrnd hi3 hmore
      obtain ⟨c3, tr3, st3⟩ := S3
      dsimp only at hmore
      rw [← hVl2] at hrnd
      repeat' (first | (with_reducible refine RL.done ?_) | (with_reducible refine RL.wanted ?_ ?_; exact rfl) | ((with_reducible show RH _ _ _ ⟨_, .call ⟨.value (.func 192), _, _⟩, _, _, _, _⟩ _ _ _ _); refine RH.cW Try.call192 ?_; refine ⟨_, _, _, (by repeat (first | exact Pick.nil | (apply Pick.cons; (with_reducible repeat (first | exact Rem.head | apply Rem.tail))))), hrnd, ?_⟩; rintro _ _ ⟨u1, u2, ps3, rfl, rfl, hps3⟩; refine RL.nm ?_) | ((with_reducible show RH _ _ _ _ _ _ _ _); refine RH.val (hK := ?_)) | (with_reducible first | refine Run.seq ?_ | refine Run.region ?_ | refine Run.block ?_ | refine Run.skip ?_ | refine Run.exit ?_ | refine Run.ret ?_) | (with_reducible show Run _ _ (.cond _ _ _) _ _ _; first | refine Run.condD rfl (fun h => ?_) (fun h => ?_) | refine Run.condND rfl (fun h => ?_) (fun h => ?_)) | (with_reducible first | refine seqN (K := Run _ _ _ _) ?_ | refine seqE ?_ | refine seqR ?_ | refine blockN ?_ | refine blockR ?_ | refine blockE ?_))
      all_goals first
        | (exfalso; omega)
        | (obtain rfl : st3 = 2 := by assumption
           with_reducible refine seqN ?_
           rw [hVl2]
           exact ⟨(c2.1.length, u1, u2, c3, tr3, f, ps3), ⟨hrun, hi3, by dsimp only; omega, by dsimp only; omega, hps3⟩, by dsimp only; omega, Ent.of (by dsimp only; exact slA) (by dsimp only; exact chA)⟩)
        | (have hn2 : ¬ st3 = 2 := by assumption
           have hRe : R = (c3, tr3, st3) := by rw [← hrun]; exact findQ_end (fun h => hn2 h.1)
           subst hRe
           refine ⟨eA, _, [qcells b16 n os (.func (.func fk) #[] vs.toArray) u1 u2 b14 (tr3 : Int) st3, hsl (tS tInt) (vsv u1) c3.1, hsl (tPair tInt (tS tInt)) (vsv u2) c3.2, hset b14 (List.map keyS c3.1), J], resA, ?_, ?_⟩
           · dsimp only at hps3
             exact (SEnt.pick (B := [hsl tSv (vsv u1) (ps3.map Prod.fst), hrows ps3]) (by repeat (first | exact Pick.nil | (apply Pick.cons; (repeat (first | exact Rem.head | apply Rem.tail)))))).trans (SEnt.packrows.trans (by rw [hps3]; exact SEnt.ch (by repeat (first | exact Ch.nil | refine Ch.same (by repeat (first | exact Rem.head | apply Rem.tail)) ?_))))
           · exact ⟨b16, b14, u1, u2, rfl, rfl⟩)
        | trace_state
    · have hRe : R = (c2, tr2, 2) := by rw [← hrun]; exact findQ_end (fun h => hlt h.2)
      subst hRe
      repeat' (first | (with_reducible refine RL.done ?_) | (with_reducible refine RL.wanted ?_ ?_; exact rfl) | ((with_reducible show RH _ _ _ _ _ _ _ _); refine RH.val (hK := ?_)) | (with_reducible first | refine Run.seq ?_ | refine Run.region ?_ | refine Run.block ?_ | refine Run.skip ?_ | refine Run.exit ?_ | refine Run.ret ?_) | (with_reducible show Run _ _ (.cond _ _ _) _ _ _; refine Run.condD rfl (fun h => ?_) (fun h => ?_)) | (with_reducible first | refine seqN (K := Run _ _ _ _) ?_ | refine seqE ?_ | refine blockE ?_))
      all_goals first
        | (exfalso; omega)
        | (refine ⟨eA, _, [qcells b16 n os (.func (.func fk) #[] vs.toArray) v1 v2 b14 (tr2 : Int) 2, hsl (tS tInt) (vsv v1) c2.1, hsl (tPair tInt (tS tInt)) (vsv v2) c2.2, hset b14 (List.map keyS c2.1), J], resA, ?_, ?_⟩
           · exact (SEnt.pick (B := [hsl tSv (vsv v1) (ps2.map Prod.fst), hrows ps2]) (by repeat (first | exact Pick.nil | (apply Pick.cons; (repeat (first | exact Rem.head | apply Rem.tail)))))).trans (SEnt.packrows.trans (by rw [hps2]; exact SEnt.ch (by repeat (first | exact Ch.nil | refine Ch.same (by repeat (first | exact Rem.head | apply Rem.tail)) ?_))))
           · exact ⟨b16, b14, v1, v2, rfl, rfl⟩)
        | trace_state
theorem searchRowsR_c (n : Int) (os : List (Int × List Int)) (size : Nat) (fk : FuncId) (vs : List Value) (J : HP) (G : List Int → Bool) (hE : Enters Try.prog fk) (hgood : GoodOwn fk vs J G n size)
    (F : List (List Int)) (sF : Sv) (ha : algB n os = true) (hF : DInv n size F) (hsz : size ≤ 1024) (hF1 : 1 ≤ F.length) (hF3 : F.length ≤ 3) :
    Spec Try.prog 172 [vagg [vint n, vsl 2 (fun y : Int × (List Int) => [vint y.1, vsl 1 (fun x : Int => [vint x]) y.2]) os], vlit (vsv sF), vlit (.func (.func fk) #[] vs.toArray)] [hsl (tS tInt) (vsv sF) F, J]
      (fun r S' => ∃ (bq bm : Nat) (u1 u2 : Sv), r = vptr bq 0 ∧ S' = [qcells bq n os (.func (.func fk) #[] vs.toArray) u1 u2 bm ((seaQ G n size os F).2.1 : Int) (seaQ G n size os F).2.2, hsl (tS tInt) (vsv u1) (seaQ G n size os F).1.1, hsl (tPair tInt (tS tInt)) (vsv u2) (seaQ G n size os F).1.2, hset bm (List.map keyS (seaQ G n size os F).1.1), J]) :=
  Spec.unrows fun ps hps => searchRowsP_c n os size fk vs J G hE hgood F sF ps hps ha hF hsz hF1 hF3
end Go.Proofs.Ytiifdhdhjioefaa

/- The search for a term that obeys a condition, over rows of its own: impl.searchTerm, RefutingRows. Proved for this program; conditions: lengths below 2^62. -/
namespace Go.Proofs.Ytiifdhdhjioefaa
open Go Go.Proofs
set_option linter.unusedVariables false
set_option maxRecDepth 10000 in
theorem goodR_c (b2 b3 b5 N k0 : Nat) (os : List (Int × List Int)) (rs : List (List Int × List Int)) (hn1 : 1 ≤ N) (hn4 : N ≤ 4) (hc : condB (k0 : Int) rs = true) (w : Sv) (t : List Int) (ht : t.length = rowS N rs) :
    Spec Try.prog 174 [vlit (vsv w), vptr b2 0, vptr b3 0, vptr b5 0] [hsl tInt (vsv w) t, hcells b2 [vint (N : Int), vsl 2 (fun y : Int × (List Int) => [vint y.1, vsl 1 (fun x : Int => [vint x]) y.2]) os], hcells b3 [vint (k0 : Int), vsl 2 (fun y : (List Int) × (List Int) => [vsl 1 (fun x : Int => [vint x]) y.1, vsl 1 (fun x : Int => [vint x]) y.2]) rs], hcells b5 [vsl 1 (fun t : List Int => [vsl 1 (fun x : Int => [vint x]) t]) (pats rs)]] (fun r S' => r = vbool (goodR N rs t) ∧ S' = [hsl tInt (vsv w) t, hcells b2 [vint (N : Int), vsl 2 (fun y : Int × (List Int) => [vint y.1, vsl 1 (fun x : Int => [vint x]) y.2]) os], hcells b3 [vint (k0 : Int), vsl 2 (fun y : (List Int) × (List Int) => [vsl 1 (fun x : Int => [vint x]) y.1, vsl 1 (fun x : Int => [vint x]) y.2]) rs], hcells b5 [vsl 1 (fun t : List Int => [vsl 1 (fun x : Int => [vint x]) t]) (pats rs)]]) := by
  have hN : N = 1 ∨ N = 2 ∨ N = 3 ∨ N = 4 := by omega
  have hob := rowObeys_c N hN t (k0 : Int) rs hc (pats rs) rfl ht
  refine Spec.of_run2 (n := 12) Try.func174 rfl Try.results174 Try.ntmps174 rfl ?_
  repeat' (first | (with_reducible refine RL.done ?_) | (with_reducible refine RL.wanted ?_ ?_; exact rfl) | ((with_reducible show RH _ _ _ ⟨_, .call ⟨.value (.func 175), _, _⟩, _, _, _, _⟩ _ _ _ _); refine RH.cL Try.call175 ?_; apply Exists.intro; apply And.intro; (focus ((repeat (first | exact LVs.nil | (apply LVs.sl; (with_reducible repeat (first | exact Has.head | apply Has.tail)); exact inferInstance; exact rfl) | apply LVs.agg | apply LVs.refl)); done)); refine ⟨_, hob, (by intro r H h; first | (obtain ⟨rfl, rfl⟩ := h; exact ⟨inferInstance, inferInstance⟩) | (obtain ⟨_, rfl, rfl⟩ := h; exact ⟨inferInstance, inferInstance⟩) | (obtain ⟨_, _, rfl, rfl⟩ := h; exact ⟨inferInstance, inferInstance⟩) | (obtain ⟨_, _, rfl, rfl, _⟩ := h; exact ⟨inferInstance, inferInstance⟩)), ?_⟩; rintro _ _ ⟨rfl, rfl⟩; refine RL.nm ?_) | ((with_reducible show RH _ _ _ _ _ _ _ _); refine RH.val (hK := ?_)) | (with_reducible first | refine Run.seq ?_ | refine Run.region ?_ | refine Run.ret ?_) | (with_reducible refine seqN (K := Run _ _ _ _) ?_))
  all_goals first
    | (refine ⟨eA, _, [hsl tInt (vsv w) t, hcells b2 [vint (N : Int), vsl 2 (fun y : Int × (List Int) => [vint y.1, vsl 1 (fun x : Int => [vint x]) y.2]) os], hcells b3 [vint (k0 : Int), vsl 2 (fun y : (List Int) × (List Int) => [vsl 1 (fun x : Int => [vint x]) y.1, vsl 1 (fun x : Int => [vint x]) y.2]) rs], hcells b5 [vsl 1 (fun t : List Int => [vsl 1 (fun x : Int => [vint x]) t]) (pats rs)]], resA, ?_, ?_⟩
       · exact SEnt.ch chA
       · exact ⟨rfl, rfl⟩)
    | trace_state
theorem goodR_ok (b2 b3 b5 N k0 : Nat) (os : List (Int × List Int)) (rs : List (List Int × List Int)) (hn1 : 1 ≤ N) (hn4 : N ≤ 4) (hc : condB (k0 : Int) rs = true) :
    GoodOwn 174 [.pointer (some ⟨b2, 0, none⟩), .pointer (some ⟨b3, 0, none⟩), .pointer (some ⟨b5, 0, none⟩)] (JT b2 b3 b5 N k0 os rs) (goodR N rs) (N : Int) (rowS N rs) := by
  intro w t ht _
  refine Spec.pre ((SEnt.pick (.cons (.tail .head) .nil)).trans ((SEnt.unstar.trans SEnt.unstar).trans (SEnt.pick (.cons (.tail (.tail (.tail .head))) (.cons .head (.cons .head (.cons .head .nil))))))) ?_
  refine (goodR_c b2 b3 b5 N k0 os rs hn1 hn4 hc w t ht).post ?_
  rintro r S' ⟨rfl, rfl⟩
  exact SImp.of ((SEnt.pick (.cons (.tail .head) (.cons (.tail .head) (.cons (.tail .head) .nil)))).trans ((SEnt.star.trans SEnt.star).trans (SEnt.pick (.cons (.tail .head) (.cons .head .nil))))) ⟨rfl, rfl⟩
set_option maxRecDepth 10000 in
set_option maxHeartbeats 4000000 in
theorem searchTermR_c (N k0 size : Nat) (os : List (Int × List Int)) (rs : List (List Int × List Int)) (hk : MalOk N k0 size os rs) :
    Spec Try.prog 127 [vagg [vint (N : Int), vsl 2 (fun y : Int × (List Int) => [vint y.1, vsl 1 (fun x : Int => [vint x]) y.2]) os], vagg [vint (k0 : Int), vsl 2 (fun y : (List Int) × (List Int) => [vsl 1 (fun x : Int => [vint x]) y.1, vsl 1 (fun x : Int => [vint x]) y.2]) rs]] []
      (fun r S' => ∃ (bq bm : Nat) (fv : Value) (u1 u2 : Sv), r = vptr bq 0 ∧ S' = [qcells bq (N : Int) os fv u1 u2 bm ((seaV N k0 size os rs).2.1 : Int) (seaV N k0 size os rs).2.2, hsl (tS tInt) (vsv u1) (seaV N k0 size os rs).1.1, hsl (tPair tInt (tS tInt)) (vsv u2) (seaV N k0 size os rs).1.2, hset bm (List.map keyS (seaV N k0 size os rs).1.1)]) := by
  have hFl := fstR_length N k0 size (pats rs) k0
  have hFi := fstR_inv (k := k0) (size := size) hk.n1 rs
  have h2 := hk.k2
  have h3 := hk.k3
  have hsz := rowS_le hk.n4 hk.cond
  have hsea : ∀ (b2 b3 b5 : Nat) (sF : Sv), Spec Try.prog 172 [vagg [vint (N : Int), vsl 2 (fun y : Int × (List Int) => [vint y.1, vsl 1 (fun x : Int => [vint x]) y.2]) os], vlit (vsv sF), vlit (.func (.func 174) #[] #[.pointer (some ⟨b2, 0, none⟩), .pointer (some ⟨b3, 0, none⟩), .pointer (some ⟨b5, 0, none⟩)])] [hcells b2 [vint (N : Int), vsl 2 (fun y : Int × (List Int) => [vint y.1, vsl 1 (fun x : Int => [vint x]) y.2]) os], hcells b3 [vint (k0 : Int), vsl 2 (fun y : (List Int) × (List Int) => [vsl 1 (fun x : Int => [vint x]) y.1, vsl 1 (fun x : Int => [vint x]) y.2]) rs], hcells b5 [vsl 1 (fun t : List Int => [vsl 1 (fun x : Int => [vint x]) t]) (pats rs)], hsl (tS tInt) (vsv sF) (fstR N k0 size (pats rs) k0)]
      (fun r S' => ∃ (bq bm : Nat) (u1 u2 : Sv), r = vptr bq 0 ∧ S' = [hcells b2 [vint (N : Int), vsl 2 (fun y : Int × (List Int) => [vint y.1, vsl 1 (fun x : Int => [vint x]) y.2]) os], hcells b3 [vint (k0 : Int), vsl 2 (fun y : (List Int) × (List Int) => [vsl 1 (fun x : Int => [vint x]) y.1, vsl 1 (fun x : Int => [vint x]) y.2]) rs], hcells b5 [vsl 1 (fun t : List Int => [vsl 1 (fun x : Int => [vint x]) t]) (pats rs)], qcells bq (N : Int) os (.func (.func 174) #[] #[.pointer (some ⟨b2, 0, none⟩), .pointer (some ⟨b3, 0, none⟩), .pointer (some ⟨b5, 0, none⟩)]) u1 u2 bm ((seaV N k0 size os rs).2.1 : Int) (seaV N k0 size os rs).2.2, hsl (tS tInt) (vsv u1) (seaV N k0 size os rs).1.1, hsl (tPair tInt (tS tInt)) (vsv u2) (seaV N k0 size os rs).1.2, hset bm (List.map keyS (seaV N k0 size os rs).1.1)]) := fun b2 b3 b5 sF => by
    refine Spec.pre ((SEnt.star.trans SEnt.star).trans (SEnt.pick (.cons (.tail .head) (.cons .head .nil)))) ?_
    refine (searchRowsR_c (N : Int) os (rowS N rs) 174 [.pointer (some ⟨b2, 0, none⟩), .pointer (some ⟨b3, 0, none⟩), .pointer (some ⟨b5, 0, none⟩)] (JT b2 b3 b5 N k0 os rs) (goodR N rs) Try.call174 (goodR_ok b2 b3 b5 N k0 os rs hk.n1 hk.n4 hk.cond) (fstR N k0 size (pats rs) k0) sF hk.alg hFi (by omega) (by omega) (by omega)).post ?_
    rintro r S' ⟨bq, bm, u1, u2, rfl, rfl⟩
    exact SImp.of ((SEnt.pick (B := [JT b2 b3 b5 N k0 os rs]) (.cons (.tail (.tail (.tail (.tail .head)))) .nil)).trans (SEnt.unstar.trans SEnt.unstar)) ⟨bq, bm, u1, u2, rfl, rfl⟩
  refine Spec.of_run2 (n := 15) Try.func127 rfl Try.results127 Try.ntmps127 rfl ?_
  repeat' (first | (with_reducible first | refine RL.done ?_ | refine RD.app1 ?_) | (with_reducible refine RL.wanted ?_ ?_; exact rfl) | ((with_reducible show Run _ _ (.region 2 _ true) _ _ _); refine Run.regionD (fun i => i == 6) rfl ?_; change RD _ _ _ _ _ _ 8 (dm 8 0) _ _) | ((with_reducible show RD _ _ 2 _ _ _ _ _ _ _); first | ((with_reducible show RD _ _ _ _ _ _ _ (dm 8 0) _ _); refine RD.tk 0 (dm 8 192) (dm 8 1) (hK := ?_)) | ((with_reducible show RD _ _ _ _ _ _ _ (dm 8 1) _ _); refine RD.tk 1 (dm 8 212) (dm 8 3) (hK := ?_)) | ((with_reducible show RD _ _ _ _ _ _ _ (dm 8 3) _ _); refine RD.tk 2 (dm 8 208) (dm 8 7) (hK := ?_)) | ((with_reducible show RD _ _ _ _ _ _ _ (dm 8 7) _ _); refine RD.tk 3 (dm 8 208) (dm 8 15) (hK := ?_)) | ((with_reducible show RD _ _ _ _ _ _ _ (dm 8 15) _ _); refine RD.tk 5 (dm 8 192) (dm 8 47) (hK := ?_)) | ((with_reducible show RD _ _ _ _ _ _ _ (dm 8 47) _ _); refine RD.a1 4 ?_) | ((with_reducible show RD _ _ _ _ _ _ _ (dm 8 63) _ _); refine RD.a1 6 ?_) | ((with_reducible show RD _ _ _ _ _ _ _ (dm 8 127) _ _); refine RD.tk 7 (dm 8 0) (dm 8 255) (hK := ?_)) | ((with_reducible show RD _ _ _ _ _ _ 0 _ _ _); refine RD.done (by kernel_rfl) ?_)) | ((with_reducible show RO _ _ 2 _ _ _ _ _ _ _ _); first | ((with_reducible show RO _ _ _ _ _ _ _ (dm 8 47) 4 _ _); (refine RO.cP (dm 8 63) Try.call173 ?_; refine ⟨_, projectionRows_c N k0 size hk.n1 hk.n4 rs hk.cond hk.pw hk.few, ?_⟩; rintro _ _ ⟨s12, rfl, rfl⟩)) | ((with_reducible show RO _ _ _ _ _ _ _ (dm 8 63) 6 _ _); (refine RO.h (dm 8 127) ?_; show RH _ _ _ ⟨_, _, _, _, _, _⟩ _ _ _ _))) | ((with_reducible show RH _ _ _ ⟨some 2, .box _ _, _, _, _, _⟩ _ _ _ _); (refine RH.boxAgg rfl rfl ?_; rintro _ _ ⟨b2, rfl, rfl⟩)) | ((with_reducible show RH _ _ _ ⟨some 3, .box _ _, _, _, _, _⟩ _ _ _ _); (refine RH.boxAgg rfl rfl ?_; rintro _ _ ⟨b3, rfl, rfl⟩)) | ((with_reducible show RH _ _ _ ⟨some 5, .alloc _, _, _, _, _⟩ _ _ _ _); refine RH.alloc rfl ?_; rintro _ _ ⟨b5, rfl, rfl⟩) | ((with_reducible show RH _ _ _ ⟨_, .call ⟨.value (.func 171), _, _⟩, _, _, _, _⟩ _ _ _ _); refine RH.cP Try.call171 ?_; refine ⟨_, patternsOf_c (k0 : Int) rs hk.cond, ?_⟩; rintro _ _ ⟨s7, rfl, rfl⟩; refine RL.app1 ?_; refine RL.frzS ?_) | ((with_reducible show RH _ _ _ ⟨_, .call ⟨.value (.func 172), _, _⟩, _, _, _, _⟩ _ _ _ _); refine RH.cW Try.call172 ?_; refine ⟨_, _, _, (by repeat (first | exact Pick.nil | (apply Pick.cons; (with_reducible repeat (first | exact Rem.head | apply Rem.tail))))), hsea b2 b3 b5 s12, ?_⟩; rintro _ _ ⟨bq, bm, u1, u2, rfl, rfl⟩; refine RL.nm ?_) | ((with_reducible show RH _ _ _ _ _ _ _ _); first | refine RH.val (hK := ?_) | refine RH.upd (hK := ?_)) | (with_reducible first | refine Run.seq ?_ | refine Run.region ?_ | refine Run.ret ?_) | (with_reducible refine seqN (K := Run _ _ _ _) ?_))
  all_goals first
    | (refine ⟨eA, _, [qcells bq (N : Int) os (.func (.func 174) #[] #[.pointer (some ⟨b2, 0, none⟩), .pointer (some ⟨b3, 0, none⟩), .pointer (some ⟨b5, 0, none⟩)]) u1 u2 bm ((seaV N k0 size os rs).2.1 : Int) (seaV N k0 size os rs).2.2, hsl (tS tInt) (vsv u1) (seaV N k0 size os rs).1.1, hsl (tPair tInt (tS tInt)) (vsv u2) (seaV N k0 size os rs).1.2, hset bm (List.map keyS (seaV N k0 size os rs).1.1)], resA, ?_, ?_⟩
       · exact SEnt.ch chA
       · exact ⟨bq, bm, _, u1, u2, rfl, rfl⟩)
    | trace_state
abbrev RfrRes (n : Int) (os : List (Int × List Int)) (a : Int) (rs : List (List Int × List Int)) (r : VP) (S' : List HP) : Prop :=
  ∃ s : Sv, r = vtup [vlit (vsv s), vbool (decide ((fndV n os a rs).2.2 = 2))] ∧ S' = [hsl (tS tInt) (vsv s) (rowsQ (fndV n os a rs))]
set_option maxRecDepth 10000 in
set_option maxHeartbeats 4000000 in
theorem implRfr_c (n : Int) (os : List (Int × List Int)) (a : Int) (rs : List (List Int × List Int)) (hol : os.length ≤ 4611686018427387904) (ho : OpsLen os) (hl : rs.length ≤ 4611686018427387904) (hr : ∀ y ∈ rs, y.1.length ≤ 4611686018427387904 ∧ y.2.length ≤ 4611686018427387904) :
    Spec Try.prog 55 [vagg [vint n, vsl 2 (fun y : Int × (List Int) => [vint y.1, vsl 1 (fun x : Int => [vint x]) y.2]) os], vagg [vint a, vsl 2 (fun y : (List Int) × (List Int) => [vsl 1 (fun x : Int => [vint x]) y.1, vsl 1 (fun x : Int => [vint x]) y.2]) rs]] [] (RfrRes n os a rs) := by
  have hM := canSearch_c n os a rs hol ho hl hr
  cases hm : mayB n os a rs with
  | false =>
    have e := fndV_no hm
    rw [hm] at hM
    refine Spec.of_run2 (n := 25) Try.func55 rfl Try.results55 Try.ntmps55 rfl ?_
    repeat' (first | (with_reducible first | refine RL.done ?_ | refine RL.app0 ?_) | (with_reducible refine RL.wanted ?_ ?_; exact rfl) | ((with_reducible show RH _ _ _ ⟨some 2, .box _ _, _, _, _, _⟩ _ _ _ _); (refine RH.boxAgg rfl rfl ?_; rintro _ _ ⟨b2, rfl, rfl⟩)) | ((with_reducible show RH _ _ _ ⟨some 3, .box _ _, _, _, _, _⟩ _ _ _ _); (refine RH.boxAgg rfl rfl ?_; rintro _ _ ⟨b3, rfl, rfl⟩)) | ((with_reducible show RH _ _ _ ⟨some 11, .buildSlice _ _ _, _, _, _, _⟩ _ _ _ _); (refine RH.eff rfl rfl (EOpS.e (EOpS.slitV (by ((repeat (first | exact Elts.nil | apply Elts.one1 rfl | apply Elts.agg2 rfl)); done)) (by simp) rfl rfl)) ?_; rintro _ _ ⟨b11, rfl, rfl⟩)) | ((with_reducible show RH _ _ _ ⟨_, .call ⟨.value (.func 126), _, _⟩, _, _, _, _⟩ _ _ _ _); refine RH.cP Try.call126 ?_; refine ⟨_, hM, ?_⟩; rintro _ _ ⟨rfl, rfl⟩) | ((with_reducible show RH _ _ _ _ _ _ _ _); refine RH.val (hK := ?_)) | (with_reducible first | refine Run.seq ?_ | refine Run.region ?_ | refine Run.ret ?_) | (with_reducible show Run _ _ (.cond _ _ _) _ _ _; refine Run.condT rfl ?_) | (with_reducible first | refine seqN (K := Run _ _ _ _) ?_ | refine seqR ?_))
    all_goals first
      | (exfalso; simp_all; done)
      | (refine ⟨eA, _, [hsl (tS tInt) (vsv (some ⟨b11, 0, none⟩, 0, 0)) []], resA, ?_, ?_⟩
         · exact (SEnt.packNil (tS tInt) rfl).trans (SEnt.ch (.cons .head rfl .nil))
         · exact ⟨(some ⟨b11, 0, none⟩, 0, 0), by rw [e]; rfl, by rw [e]; rfl⟩)
      | trace_state
  | true =>
    rw [hm] at hM
    obtain ⟨N, k0, size, rfl, rfl, hk, _⟩ := mal_ok hm
    have e := fndV_yes hm hk
    have hsea := searchTermR_c N k0 size os rs hk
    obtain ⟨S, hS⟩ : ∃ S, seaV N k0 size os rs = S := ⟨_, rfl⟩
    rw [hS] at hsea e
    obtain ⟨c, tr, st⟩ := S
    by_cases h1 : st = 2
    · have hq : rowsQ (fndV (N : Int) os (k0 : Int) rs) = c.1 := by rw [e, rowsQ]; exact if_pos h1
      refine Spec.of_run2 (n := 25) Try.func55 rfl Try.results55 Try.ntmps55 rfl ?_
      repeat' (first | (with_reducible first | refine RL.done ?_ | refine RL.app0 ?_ | refine RL.app4 ?_) | (with_reducible refine RL.wanted ?_ ?_; exact rfl) | ((with_reducible show RH _ _ _ ⟨some 2, .box _ _, _, _, _, _⟩ _ _ _ _); (refine RH.boxAgg rfl rfl ?_; rintro _ _ ⟨b2, rfl, rfl⟩)) | ((with_reducible show RH _ _ _ ⟨some 3, .box _ _, _, _, _, _⟩ _ _ _ _); (refine RH.boxAgg rfl rfl ?_; rintro _ _ ⟨b3, rfl, rfl⟩)) | ((with_reducible show RH _ _ _ ⟨some 20, .buildSlice _ _ _, _, _, _, _⟩ _ _ _ _); (refine RH.eff rfl rfl (EOpS.e (EOpS.slitV (by ((repeat (first | exact Elts.nil | apply Elts.one1 rfl | apply Elts.agg2 rfl)); done)) (by simp) rfl rfl)) ?_; rintro _ _ ⟨b20, rfl, rfl⟩)) | ((with_reducible show RH _ _ _ ⟨_, .call ⟨.value (.func 126), _, _⟩, _, _, _, _⟩ _ _ _ _); refine RH.cP Try.call126 ?_; refine ⟨_, hM, ?_⟩; rintro _ _ ⟨rfl, rfl⟩) | ((with_reducible show RH _ _ _ ⟨_, .call ⟨.value (.func 127), _, _⟩, _, _, _, _⟩ _ _ _ _); refine RH.cP Try.call127 ?_; refine ⟨_, hsea, ?_⟩; rintro _ _ ⟨bq, bm, fv, u1, u2, rfl, rfl⟩) | ((with_reducible show RH _ _ _ _ _ _ _ _); refine RH.val (hK := ?_)) | (with_reducible first | refine Run.seq ?_ | refine Run.region ?_ | refine Run.skip ?_ | refine Run.ret ?_) | (with_reducible show Run _ _ (.cond _ _ _) _ _ _; first | refine Run.condF rfl ?_ | refine Run.condD rfl (fun h => ?_) (fun h => ?_)) | (with_reducible first | refine seqN (K := Run _ _ _ _) ?_ | refine seqR ?_))
      all_goals first
        | (exfalso; omega)
        | (exfalso; simp_all; done)
        | (refine ⟨eA, _, [hsl (tS tInt) (vsv u1) c.1], resA, ?_, ?_⟩
           · exact SEnt.ch chA
           · exact ⟨u1, by rw [e, h1]; rfl, by rw [hq]⟩)
        | trace_state
    · have hq : rowsQ (fndV (N : Int) os (k0 : Int) rs) = [] := by rw [e, rowsQ]; exact if_neg h1
      have hd : decide ((fndV (N : Int) os (k0 : Int) rs).2.2 = 2) = false := by rw [e]; exact decide_eq_false h1
      refine Spec.of_run2 (n := 25) Try.func55 rfl Try.results55 Try.ntmps55 rfl ?_
      repeat' (first | (with_reducible first | refine RL.done ?_ | refine RL.app0 ?_ | refine RL.app4 ?_) | (with_reducible refine RL.wanted ?_ ?_; exact rfl) | ((with_reducible show RH _ _ _ ⟨some 2, .box _ _, _, _, _, _⟩ _ _ _ _); (refine RH.boxAgg rfl rfl ?_; rintro _ _ ⟨b2, rfl, rfl⟩)) | ((with_reducible show RH _ _ _ ⟨some 3, .box _ _, _, _, _, _⟩ _ _ _ _); (refine RH.boxAgg rfl rfl ?_; rintro _ _ ⟨b3, rfl, rfl⟩)) | ((with_reducible show RH _ _ _ ⟨some 20, .buildSlice _ _ _, _, _, _, _⟩ _ _ _ _); (refine RH.eff rfl rfl (EOpS.e (EOpS.slitV (by ((repeat (first | exact Elts.nil | apply Elts.one1 rfl | apply Elts.agg2 rfl)); done)) (by simp) rfl rfl)) ?_; rintro _ _ ⟨b20, rfl, rfl⟩)) | ((with_reducible show RH _ _ _ ⟨_, .call ⟨.value (.func 126), _, _⟩, _, _, _, _⟩ _ _ _ _); refine RH.cP Try.call126 ?_; refine ⟨_, hM, ?_⟩; rintro _ _ ⟨rfl, rfl⟩) | ((with_reducible show RH _ _ _ ⟨_, .call ⟨.value (.func 127), _, _⟩, _, _, _, _⟩ _ _ _ _); refine RH.cP Try.call127 ?_; refine ⟨_, hsea, ?_⟩; rintro _ _ ⟨bq, bm, fv, u1, u2, rfl, rfl⟩) | ((with_reducible show RH _ _ _ _ _ _ _ _); refine RH.val (hK := ?_)) | (with_reducible first | refine Run.seq ?_ | refine Run.region ?_ | refine Run.skip ?_ | refine Run.ret ?_) | (with_reducible show Run _ _ (.cond _ _ _) _ _ _; first | refine Run.condF rfl ?_ | refine Run.condD rfl (fun h => ?_) (fun h => ?_)) | (with_reducible first | refine seqN (K := Run _ _ _ _) ?_ | refine seqR ?_))
      all_goals first
        | (exfalso; omega)
        | (exfalso; simp_all; done)
        | (refine ⟨eA, _, [hsl (tS tInt) (vsv (some ⟨b20, 0, none⟩, 0, 0)) []], resA, ?_, ?_⟩
           · exact (SEnt.packNil (tS tInt) rfl).trans (SEnt.ch (.cons .head rfl .nil))
           · exact ⟨(some ⟨b20, 0, none⟩, 0, 0), by rw [hd]; rfl, by rw [hq]⟩)
        | trace_state
theorem bool_no {o : Bool} (h : o = false) : ¬ o = true := by rw [h]; decide
set_option maxRecDepth 10000 in
set_option maxHeartbeats 4000000 in
theorem specRfr_c (n : Int) (os : List (Int × List Int)) (a : Int) (rs : List (List Int × List Int)) (hol : os.length ≤ 4611686018427387904) (ho : OpsLen os) (hl : rs.length ≤ 4611686018427387904) (hr : ∀ y ∈ rs, y.1.length ≤ 4611686018427387904 ∧ y.2.length ≤ 4611686018427387904) :
    Spec Try.prog 53 [vagg [vint n, vsl 2 (fun y : Int × (List Int) => [vint y.1, vsl 1 (fun x : Int => [vint x]) y.2]) os], vagg [vint a, vsl 2 (fun y : (List Int) × (List Int) => [vsl 1 (fun x : Int => [vint x]) y.1, vsl 1 (fun x : Int => [vint x]) y.2]) rs]] [] (RfrRes n os a rs) := by
  have hM := l15Both_c n os a rs hol ho hl hr
  cases hm : mayB n os a rs with
  | false =>
    have e := fndV_no hm
    rw [hm] at hM
    refine Spec.of_run2 (n := 43) Try.func53 rfl Try.results53 Try.ntmps53 rfl ?_
    repeat' (first | (with_reducible first | refine RL.done ?_ | refine RL.app0 ?_) | (with_reducible refine RL.wanted ?_ ?_; exact rfl) | ((with_reducible show RH _ _ _ ⟨some 2, .box _ _, _, _, _, _⟩ _ _ _ _); (refine RH.boxAgg rfl rfl ?_; rintro _ _ ⟨b2, rfl, rfl⟩)) | ((with_reducible show RH _ _ _ ⟨some 3, .box _ _, _, _, _, _⟩ _ _ _ _); (refine RH.boxAgg rfl rfl ?_; rintro _ _ ⟨b3, rfl, rfl⟩)) | ((with_reducible show RH _ _ _ ⟨some 9, .buildSlice _ _ _, _, _, _, _⟩ _ _ _ _); (refine RH.eff rfl rfl (EOpS.e (EOpS.slitV (by ((repeat (first | exact Elts.nil | apply Elts.one1 rfl | apply Elts.agg2 rfl)); done)) (by simp) rfl rfl)) ?_; rintro _ _ ⟨b9, rfl, rfl⟩)) | ((with_reducible show RH _ _ _ ⟨_, .call ⟨.value (.func 123), _, _⟩, _, _, _, _⟩ _ _ _ _); refine RH.cP Try.call123 ?_; refine ⟨_, hM, ?_⟩; rintro _ _ ⟨rfl, rfl⟩) | ((with_reducible show RH _ _ _ _ _ _ _ _); refine RH.val (hK := ?_)) | (with_reducible first | refine Run.seq ?_ | refine Run.region ?_ | refine Run.ret ?_) | (with_reducible show Run _ _ (.cond _ _ _) _ _ _; refine Run.condT rfl ?_) | (with_reducible first | refine seqN (K := Run _ _ _ _) ?_ | refine seqR ?_))
    all_goals first
      | (exfalso; simp_all; done)
      | (refine ⟨eA, _, [hsl (tS tInt) (vsv (some ⟨b9, 0, none⟩, 0, 0)) []], resA, ?_, ?_⟩
         · exact (SEnt.pick (B := [harr b9 1 (List.map vlit) [] (0 * 1)]) (by repeat (first | exact Pick.nil | (apply Pick.cons; (with_reducible repeat (first | exact Rem.head | apply Rem.tail)))))).trans ((SEnt.packNil (tS tInt) rfl).trans (SEnt.ch (.cons .head rfl .nil)))
         · exact ⟨(some ⟨b9, 0, none⟩, 0, 0), by rw [e]; rfl, by rw [e]; rfl⟩)
      | trace_state
  | true =>
    rw [hm] at hM
    obtain ⟨N, k0, size, rfl, rfl, hk, _⟩ := mal_ok hm
    have e := fndV_yes hm hk
    have hfind := l15Find_c N k0 size os rs hk
    obtain ⟨hQ, hns0⟩ := seaV_ok hk
    have hsz := rowS_le hk.n4 hk.cond
    obtain ⟨S, hS⟩ : ∃ S, seaV N k0 size os rs = S := ⟨_, rfl⟩
    rw [hS] at hfind e hQ hns0
    obtain ⟨c, tr, st⟩ := S
    have hfew : c.1.length ≤ 150 := hQ.few
    obtain ⟨q1, q2, q3⟩ : (∀ pl tries o, SpQ (c, tr, st) pl tries o → (0 ≤ pl ↔ st = 1)) ∧ (∀ pl tries o, SpQ (c, tr, st) pl tries o → (o = true ↔ st = 3)) ∧ (st = 1 ∨ st = 2 ∨ st = 3) := ⟨fun _ _ _ h => h.1, fun _ _ _ h => h.2.1, hQ.st⟩
    by_cases h1 : st = 2
    · have hq : rowsQ (fndV (N : Int) os (k0 : Int) rs) = c.1 := by rw [e, rowsQ]; exact if_pos h1
      refine Spec.of_run2 (n := 43) Try.func53 rfl Try.results53 Try.ntmps53 rfl ?_
      repeat' (first | (with_reducible first | refine RL.done ?_ | refine RL.app0 ?_ | refine RL.app2 ?_) | (with_reducible refine RL.wanted ?_ ?_; exact rfl) | ((with_reducible show RH _ _ _ ⟨some 2, .box _ _, _, _, _, _⟩ _ _ _ _); (refine RH.boxAgg rfl rfl ?_; rintro _ _ ⟨b2, rfl, rfl⟩)) | ((with_reducible show RH _ _ _ ⟨some 3, .box _ _, _, _, _, _⟩ _ _ _ _); (refine RH.boxAgg rfl rfl ?_; rintro _ _ ⟨b3, rfl, rfl⟩)) | ((with_reducible show RH _ _ _ ⟨some 9, .buildSlice _ _ _, _, _, _, _⟩ _ _ _ _); (refine RH.eff rfl rfl (EOpS.e (EOpS.slitV (by ((repeat (first | exact Elts.nil | apply Elts.one1 rfl | apply Elts.agg2 rfl)); done)) (by simp) rfl rfl)) ?_; rintro _ _ ⟨b9, rfl, rfl⟩)) | ((with_reducible show RH _ _ _ ⟨some 7, .alloc _, _, _, _, _⟩ _ _ _ _); refine RH.alloc rfl ?_; rintro _ _ ⟨b7, rfl, rfl⟩) | ((with_reducible show RH _ _ _ ⟨_, .call ⟨.value (.func 123), _, _⟩, _, _, _, _⟩ _ _ _ _); refine RH.cP Try.call123 ?_; refine ⟨_, hM, ?_⟩; rintro _ _ ⟨rfl, rfl⟩) | ((with_reducible show RH _ _ _ ⟨_, .call ⟨.value (.func 124), _, _⟩, _, _, _, _⟩ _ _ _ _); refine RH.cP Try.call124 ?_; refine ⟨_, hfind, ?_⟩; rintro _ _ ⟨u1, u2, pl, tries, o, rfl, rfl, hsp⟩) | ((with_reducible show RH _ _ _ _ _ _ _ _); first | refine RH.val (hK := ?_) | refine RH.upd (hK := ?_)) | (with_reducible show RL _ _ _ (_ :: _) _ _ _; first | refine RL.guardYes rfl rfl rfl rfl ?_ | refine RL.guardNoS rfl rfl rfl rfl rfl rfl ?_ | refine RL.splitD rfl rfl rfl (fun h => ?_) (fun h => ?_)) | (with_reducible first | refine Run.seq ?_ | refine Run.region ?_ | refine Run.block ?_ | refine Run.skip ?_ | refine Run.ret ?_) | (with_reducible show Run _ _ (.cond _ _ _) _ _ _; first | refine Run.condT rfl ?_ | refine Run.condF rfl ?_ | refine Run.cond rfl (fun h => ?_) (fun h => ?_)) | (with_reducible first | refine seqN (K := Run _ _ _ _) ?_ | refine seqR ?_))
      all_goals have p1 := q1 _ _ _ hsp
      all_goals have p2 := q2 _ _ _ hsp
      all_goals first
        | (exfalso; omega)
        | (exfalso; have := p2.1 (by assumption); omega)
        | skip
      refine Run.sent (T := [hsl (tS tInt) (vsv (some ⟨b9, 0, none⟩, 0, 0)) [], hcells b7 [vlit (vsv u1), vlit (vsv u2), vint pl, vint tries, vbool o], hsl tRow (vsv u1) c.1]) ((SEnt.pick (B := [harr b9 1 (List.map vlit) [] (0 * 1)]) (by repeat (first | exact Pick.nil | (apply Pick.cons; (repeat (first | exact Rem.head | apply Rem.tail)))))).trans ((SEnt.packNil (tS tInt) rfl).trans (SEnt.ch (by repeat (first | exact Ch.nil | refine Ch.same (by repeat (first | exact Rem.head | apply Rem.tail)) ?_))))) ?_
      refine Run.loop (α := Nat × Sv) (fun x => [(6, vlit (vsv x.2)), (7, vptr b7 0), (8, vint (x.1 : Int))]) (fun x => [hsl (tS tInt) (vsv x.2) (c.1.take x.1), hcells b7 [vlit (vsv u1), vlit (vsv u2), vint pl, vint tries, vbool o], hsl tRow (vsv u1) c.1]) (fun x => x.1 ≤ c.1.length) (fun x => c.1.length - x.1) (0, (some ⟨b9, 0, none⟩, 0, 0)) (Nat.zero_le _) (Ent.of slA .refl) ?_
      rintro ⟨i, s⟩ hi
      dsimp only at hi ⊢
      have hil2 : (c.1.take i).length = i := by rw [List.length_take]; omega
      rcases Nat.lt_or_eq_of_le hi with hi9 | hi9
      · have hil : (c.1[i]'hi9).length ≤ 4398046511104 := by
          have := (hQ.inv.row _ (List.getElem_mem hi9)).1; omega
        have htk : c.1.take (i + 1) = c.1.take i ++ [c.1[i]'hi9] := by rw [List.take_add_one, List.getElem?_eq_getElem hi9]; rfl
        repeat' (first | (with_reducible first | refine RL.done ?_ | refine RL.app1 ?_) | (with_reducible refine RL.wanted ?_ ?_; exact rfl) | ((with_reducible show RH _ _ _ ⟨some 40, .buildSlice _ _ _, _, _, _, _⟩ _ _ _ _); (refine RH.eff rfl rfl (EOpS.e (EOpS.slitV (by ((repeat (first | exact Elts.nil | apply Elts.one1 rfl | apply Elts.agg2 rfl)); done)) (by simp) rfl rfl)) ?_; rintro _ _ ⟨b40, rfl, rfl⟩)) | ((with_reducible show RH _ _ _ ⟨_, .call ⟨.value (.func 79), _, _⟩, _, _, _, _⟩ _ _ _ _); refine RH.cP Try.call79 ?_; refine ⟨_, l1Own_c (c.1[i]'hi9) hil, ?_⟩; rintro _ _ ⟨s39, rfl, rfl⟩) | ((with_reducible show RH _ _ _ ⟨_, .call ⟨.builtin .append, _, _⟩, _, _, _, _⟩ _ _ _ _); (refine RH.appR rfl rfl rfl (by repeat (first | exact Pick.nil | (apply Pick.cons; (with_reducible repeat (first | exact Rem.head | apply Rem.tail))))) (by first | omega | (simp; omega)) (by first | omega | (simp; omega)) ?_); rintro _ _ ⟨s, rfl, rfl⟩) | ((with_reducible show RH _ _ _ _ _ _ _ _); refine RH.val (hK := ?_)) | (with_reducible first | refine Run.seq ?_ | refine Run.region ?_ | refine Run.block ?_ | refine Run.skip ?_ | refine Run.exit ?_ | refine Run.ret ?_) | (with_reducible show Run _ _ (.cond _ _ _) _ _ _; refine Run.condD rfl (fun h => ?_) (fun h => ?_)) | (with_reducible first | refine seqN (K := Run _ _ _ _) ?_ | refine seqE ?_ | refine blockN ?_ | refine blockE ?_))
        all_goals first
          | (exfalso; omega)
          | (with_reducible refine seqN ?_
             exact ⟨(i + 1, _), by dsimp only; omega, by dsimp only; omega, Ent.of (by dsimp only; exact slA) (by dsimp only; rw [htk]; exact chA)⟩)
          | trace_state
      · subst hi9
        rw [List.take_length]
        repeat' (first | (with_reducible refine RL.done ?_) | (with_reducible refine RL.wanted ?_ ?_; exact rfl) | ((with_reducible show RH _ _ _ _ _ _ _ _); refine RH.val (hK := ?_)) | (with_reducible first | refine Run.seq ?_ | refine Run.region ?_ | refine Run.block ?_ | refine Run.skip ?_ | refine Run.exit ?_ | refine Run.ret ?_) | (with_reducible show Run _ _ (.cond _ _ _) _ _ _; refine Run.condD rfl (fun h => ?_) (fun h => ?_)) | (with_reducible first | refine seqN (K := Run _ _ _ _) ?_ | refine seqE ?_ | refine blockE ?_))
        all_goals first
          | (exfalso; omega)
          | (refine ⟨eA, _, [hsl (tS tInt) (vsv s) c.1], resA, ?_, ?_⟩
             · exact SEnt.ch chA
             · exact ⟨s, by rw [e, h1]; rfl, by rw [hq]⟩)
          | trace_state
    · have hq : rowsQ (fndV (N : Int) os (k0 : Int) rs) = [] := by rw [e, rowsQ]; exact if_neg h1
      have hd : decide ((fndV (N : Int) os (k0 : Int) rs).2.2 = 2) = false := by rw [e]; exact decide_eq_false h1
      refine Spec.of_run2 (n := 43) Try.func53 rfl Try.results53 Try.ntmps53 rfl ?_
      repeat' (first | (with_reducible first | refine RL.done ?_ | refine RL.app0 ?_ | refine RL.app2 ?_) | (with_reducible refine RL.wanted ?_ ?_; exact rfl) | ((with_reducible show RH _ _ _ ⟨some 2, .box _ _, _, _, _, _⟩ _ _ _ _); (refine RH.boxAgg rfl rfl ?_; rintro _ _ ⟨b2, rfl, rfl⟩)) | ((with_reducible show RH _ _ _ ⟨some 3, .box _ _, _, _, _, _⟩ _ _ _ _); (refine RH.boxAgg rfl rfl ?_; rintro _ _ ⟨b3, rfl, rfl⟩)) | ((with_reducible show RH _ _ _ ⟨some 9, .buildSlice _ _ _, _, _, _, _⟩ _ _ _ _); (refine RH.eff rfl rfl (EOpS.e (EOpS.slitV (by ((repeat (first | exact Elts.nil | apply Elts.one1 rfl | apply Elts.agg2 rfl)); done)) (by simp) rfl rfl)) ?_; rintro _ _ ⟨b9, rfl, rfl⟩)) | ((with_reducible show RH _ _ _ ⟨some 7, .alloc _, _, _, _, _⟩ _ _ _ _); refine RH.alloc rfl ?_; rintro _ _ ⟨b7, rfl, rfl⟩) | ((with_reducible show RH _ _ _ ⟨_, .call ⟨.value (.func 123), _, _⟩, _, _, _, _⟩ _ _ _ _); refine RH.cP Try.call123 ?_; refine ⟨_, hM, ?_⟩; rintro _ _ ⟨rfl, rfl⟩) | ((with_reducible show RH _ _ _ ⟨_, .call ⟨.value (.func 124), _, _⟩, _, _, _, _⟩ _ _ _ _); refine RH.cP Try.call124 ?_; refine ⟨_, hfind, ?_⟩; rintro _ _ ⟨u1, u2, pl, tries, o, rfl, rfl, hsp⟩) | ((with_reducible show RH _ _ _ _ _ _ _ _); first | refine RH.val (hK := ?_) | refine RH.upd (hK := ?_)) | (with_reducible show RL _ _ _ (_ :: _) _ _ _; first | refine RL.guardYes rfl rfl rfl rfl ?_ | refine RL.guardNoS rfl rfl rfl rfl rfl rfl ?_ | refine RL.splitD rfl rfl rfl (fun h => ?_) (fun h => ?_)) | (with_reducible first | refine Run.seq ?_ | refine Run.region ?_ | refine Run.block ?_ | refine Run.skip ?_ | refine Run.ret ?_) | (with_reducible show Run _ _ (.cond _ _ _) _ _ _; first | refine Run.condT rfl ?_ | refine Run.condF rfl ?_ | refine Run.cond rfl (fun h => ?_) (fun h => ?_)) | (with_reducible first | refine seqN (K := Run _ _ _ _) ?_ | refine seqR ?_))
      all_goals have p1 := q1 _ _ _ hsp
      all_goals have p2 := q2 _ _ _ hsp
      all_goals first
        | (exfalso; omega)
        | (exfalso
           rcases q3 with h | h | h
           · omega
           · exact h1 h
           · exact absurd (p2.2 h) (bool_no (by assumption)))
        | (refine ⟨eA, _, [hsl (tS tInt) (vsv (some ⟨b9, 0, none⟩, 0, 0)) []], resA, ?_, ?_⟩
           · exact (SEnt.pick (B := [harr b9 1 (List.map vlit) [] (0 * 1)]) (by repeat (first | exact Pick.nil | (apply Pick.cons; (with_reducible repeat (first | exact Rem.head | apply Rem.tail)))))).trans ((SEnt.packNil (tS tInt) rfl).trans (SEnt.ch (.cons .head rfl .nil)))
           · exact ⟨(some ⟨b9, 0, none⟩, 0, 0), by rw [hd]; rfl, by rw [hq]⟩)
        | trace_state
end Go.Proofs.Ytiifdhdhjioefaa
