/- Contracts: scan chains, the specification's. Conditions: none; lemmas. -/
import Derived.Test.YtabdiinahgeghaaC18
import Derived.Test.YtabdiinahgeghaaC13
set_option maxRecDepth 20000
set_option linter.unusedVariables false
set_option linter.unusedSimpArgs false
namespace Go.Proofs
open Go Go.VL

end Go.Proofs
