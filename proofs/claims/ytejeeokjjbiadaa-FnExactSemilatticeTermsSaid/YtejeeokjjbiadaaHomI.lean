/- A partial map is closed: impl.noneOpen, imageIndex, closeMap. Proved for this program; conditions: valid algebras of one type, a partial map. -/
import Derived.Test.YtejeeokjjbiadaaHomP
import Derived.Test.YtejeeokjjbiadaaOwn
namespace Go.Proofs.Ytejeeokjjbiadaa
open Go Go.Proofs
set_option linter.unusedVariables false

/-- the loop over the rounds -/
structure RndI (n n2 : Int) (os os2 : List (Int × List Int)) (O : Option (List Int)) (k : Nat) (f : List Int) (ch : Bool) : Prop where
  ok : MapOk n n2 f
  go : ch = true → clF n n2 (os.zip os2) k f = O ∧ opens f < k
  no : ch = false → O = some f
/-- within a round -/
structure OpI (n n2 : Int) (os os2 : List (Int × List Int)) (O : Option (List Int)) (k : Nat) (f0 : List Int) (s : List Int × Bool) : Prop where
  cl : Cls n n2 (f0, false) s
  few : opens f0 < k + 1
  run : clF n n2 (os.zip os2) (k + 1) f0 = O
theorem OpI.step {n n2 : Int} {os os2 : List (Int × List Int)} {O : Option (List Int)} {k : Nat} {f0 : List Int} {s s' : List Int × Bool} (h : OpI n n2 os os2 O k f0 s) (h0 : MapOk n n2 f0) (c : Cls n n2 s s') : OpI n n2 os os2 O k f0 s' :=
  ⟨h.cl.trans h0 c, h.few, h.run⟩
end Go.Proofs.Ytejeeokjjbiadaa
