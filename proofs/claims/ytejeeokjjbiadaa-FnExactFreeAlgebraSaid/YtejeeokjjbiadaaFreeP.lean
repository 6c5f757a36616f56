/- The free algebra of a rank in plain terms. No program in sight. -/
import Derived.Test.YtejeeokjjbiadaaGen
import Derived.Test.YtejeeokjjbiadaaAofP
namespace Go.Proofs.Ytejeeokjjbiadaa
open Go Go.Proofs
set_option linter.unusedVariables false
def rankB (n : Int) (os : List (Int × List Int)) (k : Int) : Bool := algB n os && decide (0 ≤ k ∧ k ≤ 3) && decide (pw n k.toNat ≤ 64)
theorem rankB_at {n : Int} {os : List (Int × List Int)} {k : Int} (h : rankB n os k = true) : algB n os = true ∧ (0 ≤ k ∧ k ≤ 3) ∧ pw n k.toNat ≤ 64 := by
  simp only [rankB, Bool.and_eq_true, decide_eq_true_eq] at h
  exact ⟨h.1.1, h.1.2, h.2⟩
def fLen (n : Int) (k : Nat) : Nat := (pw n k).toNat
/-- the first values of a variable -/
def genTo (n : Int) (k v m : Nat) : List Int := (List.range m).map fun (p : Nat) => (lowd (p : Int) n k).getD v 0
theorem genTo_length (n : Int) (k v m : Nat) : (genTo n k v m).length = m := by simp [genTo]
theorem genTo_succ (n : Int) (k v m : Nat) (h : v < (lowd (m : Int) n k).length) : genTo n k v (m + 1) = genTo n k v m ++ [(lowd (m : Int) n k)[v]] := by
  rw [genTo, List.range_succ, List.map_append, List.map_singleton, List.getD_eq_getElem?_getD, List.getElem?_eq_getElem h]; rfl
def genRow (n : Int) (k v : Nat) : List Int := genTo n k v (fLen n k)
def gensTo (n : Int) (k m : Nat) : List (List Int) := (List.range m).map (genRow n k)
theorem gensTo_succ (n : Int) (k m : Nat) : gensTo n k (m + 1) = gensTo n k m ++ [genRow n k m] := by
  rw [gensTo, List.range_succ, List.map_append]; rfl
theorem gensTo_length (n : Int) (k m : Nat) : (gensTo n k m).length = m := by simp [gensTo]
def gensF (n : Int) (k : Nat) : List (List Int) := gensTo n k k
theorem gensF_length (n : Int) (k : Nat) : (gensF n k).length = k := gensTo_length n k k
theorem genRow_length (n : Int) (k v : Nat) : (genRow n k v).length = fLen n k := genTo_length n k v _
theorem genRow_ok {n : Int} {k v : Nat} (hn : 1 ≤ n) (hv : v < k) : TupOk n (fLen n k) (genRow n k v) := by
  refine ⟨genRow_length n k v, ?_⟩
  rw [elB, List.all_eq_true]
  intro x hx
  obtain ⟨p, hp, rfl⟩ := List.mem_map.1 hx
  have hl : v < (lowd (p : Int) n k).length := by rw [lowd_length]; exact hv
  rw [List.getD_eq_getElem?_getD, List.getElem?_eq_getElem hl, Option.getD_some]
  have := lowd_range' (p : Int) n (by omega) hn k _ (List.getElem_mem hl)
  simpa using this
theorem gensF_ok {n : Int} {k : Nat} (hn : 1 ≤ n) : ∀ t ∈ gensF n k, TupOk n (fLen n k) t := fun t ht => by
  obtain ⟨v, hv, rfl⟩ := List.mem_map.1 ht
  exact genRow_ok hn (List.mem_range.1 hv)
theorem pw_pos1 (n : Int) (h : 1 ≤ n) : ∀ k, 1 ≤ pw n k
  | 0 => by simp [pw]
  | k + 1 => by
    have h1 := pw_pos1 n h k
    have h2 : 1 * 1 ≤ pw n k * n := Int.mul_le_mul h1 h (by decide) (by omega)
    simp only [pw]; omega
theorem fLen_at {n : Int} {os : List (Int × List Int)} {k : Int} (h : rankB n os k = true) : ((fLen n k.toNat : Nat) : Int) = pw n k.toNat ∧ 1 ≤ fLen n k.toNat ∧ fLen n k.toNat ≤ 64 := by
  obtain ⟨ha, hk, hp⟩ := rankB_at h
  obtain ⟨h1, h8, _⟩ := algB_at ha
  have h2 := pw_pos1 n h1 k.toNat
  rw [fLen]; omega
abbrev FreeIs (n : Int) (os : List (Int × List Int)) (k : Int) (o : Option (List (List Int))) : Prop := rankB n os k = true → GenIs n os (fLen n k.toNat) (gensF n k.toNat) o
theorem free_ex (n : Int) (os : List (Int × List Int)) (k : Int) : ∃ o, FreeIs n os k o := by
  by_cases hg : rankB n os k = true
  · obtain ⟨ha, hk, hp⟩ := rankB_at hg
    obtain ⟨_, hl1, hl2⟩ := fLen_at hg
    obtain ⟨h1, _⟩ := algB_at ha
    rcases span_ex n os (fLen n k.toNat) (gensF n k.toNat) (mostV os + 1) [] .nil (fun t h => by cases h) (by simp) with ⟨L, hL⟩ | h
    · exact ⟨some (putF L), fun _ => span_sort ha (by omega) (gensF_ok h1) hL⟩
    · exact ⟨none, fun _ => h⟩
  · exact ⟨none, fun h => (hg h).elim⟩
/-- what is known of the elements -/
structure FreeOk (n : Int) (os : List (Int × List Int)) (k : Int) (X : List (List Int)) : Prop where
  srt : Sorted X
  few : X.length ≤ 300
  tup : ∀ t ∈ X, TupOk n (fLen n k.toNat) t
  cl : ClosedU n os (fLen n k.toNat) X
  gen : ∀ t ∈ gensF n k.toNat, t ∈ X
theorem free_ok {n : Int} {os : List (Int × List Int)} {k : Int} {X : List (List Int)} (hg : rankB n os k = true) (h : FreeIs n os k (some X)) : FreeOk n os k X := by
  obtain ⟨ha, hk, hp⟩ := rankB_at hg
  obtain ⟨_, hl1, hl2⟩ := fLen_at hg
  obtain ⟨h1, _⟩ := algB_at ha
  obtain ⟨hs, hy⟩ := h hg
  have htup : ∀ t ∈ X, TupOk n (fLen n k.toNat) t := fun t ht => ((hy.2.1 t).1 ht).ok ha (by omega) (gensF_ok h1)
  refine ⟨str_sorted hs fun u hu => (htup u hu).1, Nat.le_trans hy.2.2 (mostV_le os), htup, fun f hf ts hl ht => ?_, fun t ht => (hy.2.1 t).2 (.gen ht)⟩
  exact (hy.2.1 _).2 (.op hf hl fun u hu => (hy.2.1 u).1 (ht u hu))
/-- the map tells where the tuples stand -/
def KvOk (X : List (List Int)) (kv : KV) : Prop := ∀ t ∈ X, kvGet kv (keyS t) = (placeOf X t : Int)
/-- the map tells it for the first tuples -/
structure KvTo (X : List (List Int)) (m : Nat) (kv : KV) : Prop where
  key : ∀ t ∈ X, keyS t ∈ kv.map Prod.fst
  val : ∀ i (h : i < X.length), i < m → kvGet kv (keyS X[i]) = (i : Int)
theorem KvTo.succ {X : List (List Int)} {m : Nat} {kv : KV} (h : KvTo X m kv) (hs : Sorted X) (hb : ∀ t ∈ X, Byt t) (hm : m < X.length) : KvTo X (m + 1) (kvSet kv (keyS X[m]) (m : Int)) := by
  refine ⟨fun t ht => by rw [kvSet_keys]; exact h.key t ht, fun i hi him => ?_⟩
  rw [kvSet_get]
  rcases Nat.lt_or_eq_of_le (Nat.le_of_lt_succ him) with h1 | h1
  · rw [if_neg, h.val i hi h1]
    rintro ⟨e, _⟩
    have e2 := keyS_inj (hb _ (List.getElem_mem hi)) (hb _ (List.getElem_mem hm)) e
    have := hs i m h1 hm
    rw [e2, less_irrefl] at this; cases this
  · subst h1
    rw [if_pos ⟨rfl, h.key _ (List.getElem_mem hi)⟩]
theorem place_at {X : List (List Int)} (hs : Sorted X) {i : Nat} (hi : i < X.length) : placeOf X X[i] = i := by
  refine placeOf_eq (by omega) (fun j hj hji => hs j i hji hi) (fun j hj hij => ?_)
  rcases Nat.lt_or_eq_of_le hij with h4 | h4
  · cases e : less X[j] X[i] with
    | false => rfl
    | true =>
      have := less_trans (hs i j h4 hj) e
      rw [less_irrefl] at this; cases this
  · subst h4; exact less_irrefl _
theorem KvTo.ok {X : List (List Int)} {kv : KV} (h : KvTo X X.length kv) (hs : Sorted X) : KvOk X kv := fun t ht => by
  obtain ⟨i, hi, rfl⟩ := List.getElem_of_mem ht
  rw [h.val i hi hi, place_at hs hi]
theorem kvTo_0 {X L : List (List Int)} (h : ∀ t, t ∈ X → t ∈ L) : KvTo X 0 (kvL L 0) :=
  ⟨fun t ht => by rw [kvL_keys]; exact List.mem_map.2 ⟨t, h t ht, rfl⟩, fun i _ hi => by omega⟩
/-- the sizes of the first ranks, up to the first that there is not -/
def szL (n : Int) (os : List (Int × List Int)) (F : Int → Option (List (List Int))) : Nat → Nat → List Int
  | 0, _ => []
  | d + 1, k => match genO (rankB n os (k : Int)) (F (k : Int)) with
    | none => []
    | some X => (X.length : Int) :: szL n os F d (k + 1)
end Go.Proofs.Ytejeeokjjbiadaa
