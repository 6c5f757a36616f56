/- Relations made of rows: impl.different, sortedTuples, makeRelation, spec.l8Put: the same set. Proved for this program; conditions: rows of one length, at most a thousand. -/
import Derived.Test.YtejeeokjjbiadaaSrtF
import Derived.Test.YtejeeokjjbiadaaHrow
import Derived.Test.YtejeeokjjbiadaaSetP
import Derived.Test.YtejeeokjjbiadaaOwn
namespace Go.Proofs.Ytejeeokjjbiadaa
open Go Go.Proofs
set_option linter.unusedVariables false
theorem Spec.unrows {P : Program} {f : FuncId} {qs : List VP} {v : Value} {xs : List (List Int)} {S : List HP} {R : VP → List HP → Prop} (h : ∀ ps : PS, ps.map Prod.snd = xs → Spec P f qs (hsl tSv v (ps.map Prod.fst) :: hrows ps :: S) R) : Spec P f qs (hsl (tS tInt) v xs :: S) R :=
  ⟨fun c vs ha ⟨fs, hs⟩ => by
    obtain ⟨ps, h1, hs2⟩ := hs.unrows
    exact (h ps h1).run c vs ha hs2⟩
end Go.Proofs.Ytejeeokjjbiadaa
