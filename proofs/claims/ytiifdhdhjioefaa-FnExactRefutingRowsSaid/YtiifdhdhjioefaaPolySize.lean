/- The number of polynomial functions: spec.l12First, PolynomialSize, impl.PolynomialSize: the same answer. Proved for this program; conditions: lengths below 2^62. -/
import Derived.Test.YtiifdhdhjioefaaCloneU
namespace Go.Proofs.Ytiifdhdhjioefaa
open Go Go.Proofs
set_option linter.unusedVariables false

end Go.Proofs.Ytiifdhdhjioefaa
