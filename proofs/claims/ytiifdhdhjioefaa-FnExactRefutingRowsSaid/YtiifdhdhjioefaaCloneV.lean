/- What a finished clone is like. Proved in plain Lean; no conditions. -/
import Derived.Test.YtiifdhdhjioefaaCloneU
namespace Go.Proofs.Ytiifdhdhjioefaa
open Go Go.Proofs
set_option linter.unusedVariables false

end Go.Proofs.Ytiifdhdhjioefaa
