/- Contracts: the reference's counter. Conditions: none; lemmas. -/
import Derived.Test.YtaegedoalbnafaaC35
import Derived.Test.YtaegedoalbnafaaVM8
set_option maxRecDepth 20000
set_option linter.unusedVariables false
set_option linter.unusedSimpArgs false
namespace Go.Proofs
open Go Go.VL

end Go.Proofs
