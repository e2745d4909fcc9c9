/- Contracts: runs of a circuit, and of shift registers. Conditions: none; lemmas. -/
import Derived.Test.YtabdiinahgeghaaC19
import Derived.Test.YtabdiinahgeghaaC21
set_option maxRecDepth 20000
set_option linter.unusedVariables false
set_option linter.unusedSimpArgs false
namespace Go.Proofs
open Go Go.VL

end Go.Proofs
