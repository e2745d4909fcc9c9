/- Contracts: what is exact about broken wires. Conditions: none; lemmas. -/
import Derived.Test.YtbnocdngcmimaaaC50
set_option maxRecDepth 20000
set_option linter.unusedVariables false
set_option linter.unusedSimpArgs false
namespace Go.Proofs
open Go Go.VL
end Go.Proofs
