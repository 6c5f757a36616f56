/- Lists of rows in order without repetition: what spec.l8Put and impl.different make, in plain terms. No program in sight; no conditions but those that are told. -/
import Derived.Test.YtiifdhdhjioefaaHas
import Derived.Test.YtiifdhdhjioefaaSrt
namespace Go.Proofs.Ytiifdhdhjioefaa
open Go Go.Proofs
set_option linter.unusedVariables false
/-! ### impl.different -/
section
variable {β : Type} [Inhabited β]
end
end Go.Proofs.Ytiifdhdhjioefaa
