/- Sizes of answers that are lists of rows. Proved for this program; conditions: told. -/
import Derived.Test.YtodlpdedldhebaaOkRes
import Derived.Test.YtodlpdedldhebaaLawX
import Derived.Test.YtodlpdedldhebaaAlg
namespace Go.Proofs.Ytodlpdedldhebaa
open Go Go.Proofs
set_option linter.unusedVariables false

theorem opsLen_of {os : List (Int × List Int)} (h : os.length + sm (List.map (fun y : Int × List Int => y.2.length) os) ≤ 1048576) : OpsLen os := fun f hf => by
  have h1 := sm_mem (fun y : Int × List Int => y.2.length) os f hf
  (try dsimp only at h1); omega
end Go.Proofs.Ytodlpdedldhebaa
