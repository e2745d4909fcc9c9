/- Contracts: the exact laws of simulation. Conditions: none; lemmas. -/
import Derived.Test.YtbnocdngcmimaaaC11
set_option maxRecDepth 20000
set_option linter.unusedVariables false
set_option linter.unusedSimpArgs false
namespace Go.Proofs
open Go Go.VL
end Go.Proofs
