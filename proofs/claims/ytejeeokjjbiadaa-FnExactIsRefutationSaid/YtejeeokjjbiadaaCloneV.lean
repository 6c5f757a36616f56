/- What a finished clone is like. Proved in plain Lean; no conditions. -/
import Derived.Test.YtejeeokjjbiadaaCloneU
namespace Go.Proofs.Ytejeeokjjbiadaa
open Go Go.Proofs
set_option linter.unusedVariables false

end Go.Proofs.Ytejeeokjjbiadaa
