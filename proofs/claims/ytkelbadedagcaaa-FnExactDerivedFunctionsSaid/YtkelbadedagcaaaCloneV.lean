/- What a finished clone is like. Proved in plain Lean; no conditions. -/
import Derived.Test.YtkelbadedagcaaaCloneU
namespace Go.Proofs.Ytkelbadedagcaaa
open Go Go.Proofs
set_option linter.unusedVariables false

end Go.Proofs.Ytkelbadedagcaaa
