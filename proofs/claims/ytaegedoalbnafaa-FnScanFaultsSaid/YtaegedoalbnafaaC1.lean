/- Contracts of small functions. Conditions: none; lemmas. -/
import Derived.Test.YtaegedoalbnafaaTy
import Derived.Test.YtaegedoalbnafaaVM8
import Derived.Test.YtaegedoalbnafaaProg
set_option maxRecDepth 20000
set_option linter.unusedVariables false
set_option linter.unusedSimpArgs false
namespace Go.Proofs
open Go Go.VL

end Go.Proofs
